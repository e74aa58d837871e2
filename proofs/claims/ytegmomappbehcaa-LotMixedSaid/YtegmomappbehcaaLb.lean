/- The laws' own helpers: theirs, ours. (printed by gen_theirs.py) -/
import Derived.Test.YtegmomappbehcaaLa
set_option linter.unusedSimpArgs false
set_option linter.unusedVariables false
namespace Go.Proofs.Ytegmomappbehcaa
open Go.RowKit Go.Shelf

theorem owns_keep {w w' : World} {base : Nat} {e : TypeId} {size : Nat} {v : Value} {n : Nat} {xs : List Value} (h : w.ownsRow base e size v n xs) (hk : ∀ g, base ≤ g → w'.heap[g]? = w.heap[g]?) : w'.ownsRow base e size v n xs :=
  ⟨h.1, h.2.imp id (fun ⟨g, cap, cur, a, b, c, d⟩ => ⟨g, cap, cur, a, b, (hk g b).trans c, d⟩)⟩
theorem OwnPk.of_ownsT {T : TypeId} {w : World} {lo n : Nat} {v : Value} {P : Nat → Pk} (h : w.ownsRow lo T 4 v n (numCells (pkCell P) (n * 4))) : ∃ A c, v = .slice A n c ∧ OwnPk w lo A n P ∧ n ≤ c := by
  rcases h.2 with ⟨rfl, h0⟩ | ⟨g, cap, cur, rfl, hb, hg, hc, _⟩
  · refine ⟨none, 0, by rw [h0], fun k hk => by omega, by omega⟩
  · refine ⟨some ⟨g, 0, none⟩, cap, rfl, fun k hk => ?_, hc⟩
    have hcell : ∀ j, j < n * 4 → w.cell? ⟨g, j, none⟩ = some (.int .i64 (pkCell P j)) := fun j hj => by
      have h1 := h.cells (g := g) rfl j _ (numCells_get (pkCell P) hj)
      rwa [show ((⟨g, 0, none⟩ : Addr).add j) = ⟨g, j, none⟩ by by_cases hj : j = 0 <;> simp [Addr.add, hj]] at h1
    have e0 : pkCell P (k * 4 + 0) = (P k).s := by unfold pkCell; rw [show (k * 4 + 0) % 4 = 0 by omega, show (k * 4 + 0) / 4 = k by omega]; rfl
    have e1 : pkCell P (k * 4 + 1) = (P k).w := by unfold pkCell; rw [show (k * 4 + 1) % 4 = 1 by omega, show (k * 4 + 1) / 4 = k by omega]; rfl
    have e2 : pkCell P (k * 4 + 2) = (P k).o := by unfold pkCell; rw [show (k * 4 + 2) % 4 = 2 by omega, show (k * 4 + 2) / 4 = k by omega]; rfl
    have e3 : pkCell P (k * 4 + 3) = (P k).f := by unfold pkCell; rw [show (k * 4 + 3) % 4 = 3 by omega, show (k * 4 + 3) / 4 = k by omega]; rfl
    refine ⟨g, rfl, hb, ?_, ?_, ?_, ?_, fun i => frozen_of_row _ _ _ _ _ hg⟩
    · rw [← e0]; exact hcell _ (by omega)
    · rw [← e1]; exact hcell _ (by omega)
    · rw [← e2]; exact hcell _ (by omega)
    · rw [← e3]; exact hcell _ (by omega)
theorem OwnGd.of_ownsT {T : TypeId} {w : World} {lo n : Nat} {v : Value} {P : Nat → Gd} (h : w.ownsRow lo T 2 v n (numCells (gdCell P) (n * 2))) : ∃ A c, v = .slice A n c ∧ OwnGd w lo A n P ∧ n ≤ c := by
  rcases h.2 with ⟨rfl, h0⟩ | ⟨g, cap, cur, rfl, hb, hg, hc, _⟩
  · refine ⟨none, 0, by rw [h0], fun k hk => by omega, by omega⟩
  · refine ⟨some ⟨g, 0, none⟩, cap, rfl, fun k hk => ?_, hc⟩
    have hcell : ∀ j, j < n * 2 → w.cell? ⟨g, j, none⟩ = some (.int .i64 (gdCell P j)) := fun j hj => by
      have h1 := h.cells (g := g) rfl j _ (numCells_get (gdCell P) hj)
      rwa [show ((⟨g, 0, none⟩ : Addr).add j) = ⟨g, j, none⟩ by by_cases hj : j = 0 <;> simp [Addr.add, hj]] at h1
    have e0 : gdCell P (k * 2 + 0) = (P k).foul := by unfold gdCell; rw [show (k * 2 + 0) % 2 = 0 by omega, show (k * 2 + 0) / 2 = k by omega]; rfl
    have e1 : gdCell P (k * 2 + 1) = (P k).price := by unfold gdCell; rw [show (k * 2 + 1) % 2 = 1 by omega, show (k * 2 + 1) / 2 = k by omega]; rfl
    refine ⟨g, rfl, hb, ?_, ?_, fun i => frozen_of_row _ _ _ _ _ hg⟩
    · rw [← e0]; exact hcell _ (by omega)
    · rw [← e1]; exact hcell _ (by omega)
theorem pkCells_succ (P : Nat → Pk) (n : Nat) : numCells (pkCell P) ((n + 1) * 4) = numCells (pkCell P) (n * 4) ++ [.int .i64 (P n).s, .int .i64 (P n).w, .int .i64 (P n).o, .int .i64 (P n).f] := by
  have e0 : pkCell P (n * 4) = (P n).s := by unfold pkCell; rw [show n * 4 % 4 = 0 by omega, show n * 4 / 4 = n by omega]; rfl
  have e1 : pkCell P (n * 4 + 1) = (P n).w := by unfold pkCell; rw [show (n * 4 + 1) % 4 = 1 by omega, show (n * 4 + 1) / 4 = n by omega]; rfl
  have e2 : pkCell P (n * 4 + 1 + 1) = (P n).o := by unfold pkCell; rw [show (n * 4 + 1 + 1) % 4 = 2 by omega, show (n * 4 + 1 + 1) / 4 = n by omega]; rfl
  have e3 : pkCell P (n * 4 + 1 + 1 + 1) = (P n).f := by unfold pkCell; rw [show (n * 4 + 1 + 1 + 1) % 4 = 3 by omega, show (n * 4 + 1 + 1 + 1) / 4 = n by omega]; rfl
  unfold numCells
  rw [show (n + 1) * 4 = n * 4 + 1 + 1 + 1 + 1 by omega, List.range_succ, List.range_succ, List.range_succ, List.range_succ]
  simp [e0, e1, e2, e3]
theorem gdCells_succ (P : Nat → Gd) (n : Nat) : numCells (gdCell P) ((n + 1) * 2) = numCells (gdCell P) (n * 2) ++ [.int .i64 (P n).foul, .int .i64 (P n).price] := by
  have e0 : gdCell P (n * 2) = (P n).foul := by unfold gdCell; rw [show n * 2 % 2 = 0 by omega, show n * 2 / 2 = n by omega]; rfl
  have e1 : gdCell P (n * 2 + 1) = (P n).price := by unfold gdCell; rw [show (n * 2 + 1) % 2 = 1 by omega, show (n * 2 + 1) / 2 = n by omega]; rfl
  unfold numCells
  rw [show (n + 1) * 2 = n * 2 + 1 + 1 by omega, List.range_succ, List.range_succ]
  simp [e0, e1]
theorem infoRPk : (Try.prog.info? 116).map (fun i => (i.zero, i.size, i.bytes)) = some (some (.agg #[.int .i64 0, .int .i64 0, .int .i64 0, .int .i64 0]), 4, 32) := by kernel_rfl
theorem infoRGd : (Try.prog.info? 117).map (fun i => (i.zero, i.size, i.bytes)) = some (some (.agg #[.int .i64 0, .int .i64 0]), 2, 16) := by kernel_rfl
theorem rpks_under : Try.prog.underlying 31 = some (.slice 116) := by kernel_rfl
theorem rgds_under : Try.prog.underlying 32 = some (.slice 117) := by kernel_rfl

/-- a store under way in memory -/
def Out3 (w : World) (b : Nat) (v g : Value) (l : Int) : Prop := (w.cell? ⟨b, 0, none⟩ = some v ∧ w.cell? ⟨b, 1, none⟩ = some g ∧ w.cell? ⟨b, 2, none⟩ = some (.int .i64 l)) ∧ w.frozen? ⟨b, 0, none⟩ = false ∧ w.frozen? ⟨b, 1, none⟩ = false
theorem Out3.same {w w' : World} {b : Nat} {v g : Value} {l : Int} (h : Out3 w b v g l) (hs : w'.heap[b]? = w.heap[b]?) : Out3 w' b v g l :=
  ⟨⟨cell_same hs h.1.1, cell_same hs h.1.2.1, cell_same hs h.1.2.2⟩, fro_same hs h.2.1, fro_same hs h.2.2⟩
theorem Out3.set0 {w : World} {b : Nat} {v g : Value} {l : Int} (h : Out3 w b v g l) (u : Value) : Out3 (w.setCell ⟨b, 0, none⟩ u) b u g l := by
  obtain ⟨⟨h0, h1, h2⟩, f0, f1⟩ := h
  exact ⟨⟨by simp [go_sem, h0], by simp [go_sem, h1], by simp [go_sem, h2]⟩, fro_set_of _ f0, fro_set_of _ f1⟩
theorem Out3.set1 {w : World} {b : Nat} {v g : Value} {l : Int} (h : Out3 w b v g l) (u : Value) : Out3 (w.setCell ⟨b, 1, none⟩ u) b v u l := by
  obtain ⟨⟨h0, h1, h2⟩, f0, f1⟩ := h
  exact ⟨⟨by simp [go_sem, h0], by simp [go_sem, h1], by simp [go_sem, h2]⟩, fro_set_of _ f0, fro_set_of _ f1⟩
theorem OwnPk.keep {w w' : World} {lo n : Nat} {A : Option Addr} {P : Nat → Pk} (h : OwnPk w lo A n P) (hk : ∀ b, lo ≤ b → b < w.heap.size → w'.heap[b]? = w.heap[b]?) : OwnPk w' lo A n P := fun k hk' => by
  obtain ⟨b, hA, hl, c0, c1, c2, c3, hf⟩ := h k hk'
  have hs := hk b hl (World.block_lt_of_cell? w _ c0)
  exact ⟨b, hA, hl, cell_same hs c0, cell_same hs c1, cell_same hs c2, cell_same hs c3, fun i => fro_same hs (hf i)⟩
theorem OwnGd.keep {w w' : World} {lo n : Nat} {A : Option Addr} {P : Nat → Gd} (h : OwnGd w lo A n P) (hk : ∀ b, lo ≤ b → b < w.heap.size → w'.heap[b]? = w.heap[b]?) : OwnGd w' lo A n P := fun k hk' => by
  obtain ⟨b, hA, hl, c0, c1, hf⟩ := h k hk'
  have hs := hk b hl (World.block_lt_of_cell? w _ c0)
  exact ⟨b, hA, hl, cell_same hs c0, cell_same hs c1, fun i => fro_same hs (hf i)⟩
theorem OwnInt.keep {w w' : World} {lo n : Nat} {A : Option Addr} {P : Nat → Int} (h : OwnInt w lo A n P) (hk : ∀ b, lo ≤ b → b < w.heap.size → w'.heap[b]? = w.heap[b]?) : OwnInt w' lo A n P := fun k hk' => by
  obtain ⟨b, hA, hl, c0, hf⟩ := h k hk'
  have hs := hk b hl (World.block_lt_of_cell? w _ c0)
  exact ⟨b, hA, hl, cell_same hs c0, fun i => fro_same hs (hf i)⟩
/-- what theirs and ours give -/
def CopyPost (st : St) (W : World) (e : Ending) (W' : World) : Prop :=
  Below W.heap.size W W' ∧ ∃ pA pc gA gc, e = .returned (stV pA st.n pc gA st.m gc st.lots) ∧ OwnPk W' W.heap.size pA st.n st.P ∧ OwnGd W' W.heap.size gA st.m st.G ∧ st.n ≤ pc ∧ st.m ≤ gc

set_option maxRecDepth 100000 in
set_option maxHeartbeats 4000000 in
theorem theirs_any (st : St) (B : Nat) (pA gA : Option Addr) (pc gc : Nat) (W : World) (hs : StRow W B st pA pc gA gc) :
    Calls Try.prog 20 #[stV pA st.n pc gA st.m gc st.lots] W (CopyPost st W) := by
  have HS := Lib.hid hs
  have hB := hs.lt
  have hn := hs.n
  have hm := hs.m
  clear hs
  obtain ⟨i0, hi, hz0, hz1, hz2⟩ := info_parts infoRPk
  obtain ⟨j0, ji, jz0, jz1, jz2⟩ := info_parts infoRGd
  go_enter Try.func20, Try.ntmps20
  go_wp2_with fail
  refine wp_world (fun W1 => W1.cell? ⟨W.heap.size, 1, none⟩ = some (.slice gA st.m gc) ∧ ((W1.cell? ⟨W.heap.size + 1, 0, none⟩ = some (.slice none 0 0) ∧ W1.cell? ⟨W.heap.size + 1, 1, none⟩ = some (.slice none 0 0) ∧ W1.cell? ⟨W.heap.size + 1, 2, none⟩ = some (.int .i64 0)) ∧ W1.frozen? ⟨W.heap.size + 1, 0, none⟩ = false ∧ W1.frozen? ⟨W.heap.size + 1, 1, none⟩ = false ∧ W1.frozen? ⟨W.heap.size + 1, 2, none⟩ = false) ∧
    ((W1.cell? ⟨W.heap.size + 1 + 1, 0, none⟩ = some (.slice none 0 0) ∧ W1.cell? ⟨W.heap.size + 1 + 1, 1, none⟩ = some (.slice none 0 0) ∧ W1.cell? ⟨W.heap.size + 1 + 1, 2, none⟩ = some (.int .i64 st.lots)) ∧ W1.frozen? ⟨W.heap.size + 1 + 1, 0, none⟩ = false ∧ W1.frozen? ⟨W.heap.size + 1 + 1, 1, none⟩ = false) ∧ Below W.heap.size W W1 ∧ W.heap.size + 1 + 1 < W1.heap.size) ⟨(by (repeat' refine And.intro ?_ ?_) <;> (repeat (first | (with_reducible assumption) | (simp; done) | (with_reducible refine cell_drew_of ?_) | (with_reducible refine cell_drewN_of ?_) | (with_reducible refine cell_below_of (by with_reducible assumption) ?_) | ((with_reducible refine cell_new_of ?_ ?_) <;> (first | (with_reducible rfl) | (simp; done))) | ((with_reducible refine fro_new_of ?_) <;> (first | (with_reducible rfl) | (simp; done))) | (with_reducible refine cell_alloc_of _ ?_) | (with_reducible refine cell_set_of _ (by (first | exact Nat.le_refl _ | omega | (simp; done) | (simp; omega))) ?_) | (with_reducible refine fro_drew_of ?_) | (with_reducible refine fro_drewN_of ?_) | (with_reducible refine fro_below_of (by with_reducible assumption) (by (first | exact Nat.le_refl _ | omega | (simp; done) | (simp; omega))) ?_) | (with_reducible refine fro_alloc_of _ (by (first | exact Nat.le_refl _ | omega | (simp; done) | (simp; omega))) ?_) | (with_reducible refine fro_set_of _ ?_)))), (by (repeat' refine And.intro ?_ ?_) <;> (repeat (first | (with_reducible assumption) | (simp; done) | (with_reducible refine cell_drew_of ?_) | (with_reducible refine cell_drewN_of ?_) | (with_reducible refine cell_below_of (by with_reducible assumption) ?_) | ((with_reducible refine cell_new_of ?_ ?_) <;> (first | (with_reducible rfl) | (simp; done))) | ((with_reducible refine fro_new_of ?_) <;> (first | (with_reducible rfl) | (simp; done))) | (with_reducible refine cell_alloc_of _ ?_) | (with_reducible refine cell_set_of _ (by (first | exact Nat.le_refl _ | omega | (simp; done) | (simp; omega))) ?_) | (with_reducible refine fro_drew_of ?_) | (with_reducible refine fro_drewN_of ?_) | (with_reducible refine fro_below_of (by with_reducible assumption) (by (first | exact Nat.le_refl _ | omega | (simp; done) | (simp; omega))) ?_) | (with_reducible refine fro_alloc_of _ (by (first | exact Nat.le_refl _ | omega | (simp; done) | (simp; omega))) ?_) | (with_reducible refine fro_set_of _ ?_)))), (by (repeat' refine And.intro ?_ ?_) <;> (repeat (first | (with_reducible assumption) | (simp; done) | (with_reducible refine cell_drew_of ?_) | (with_reducible refine cell_drewN_of ?_) | (with_reducible refine cell_below_of (by with_reducible assumption) ?_) | ((with_reducible refine cell_new_of ?_ ?_) <;> (first | (with_reducible rfl) | (simp; done))) | ((with_reducible refine fro_new_of ?_) <;> (first | (with_reducible rfl) | (simp; done))) | (with_reducible refine cell_alloc_of _ ?_) | (with_reducible refine cell_set_of _ (by (first | exact Nat.le_refl _ | omega | (simp; done) | (simp; omega))) ?_) | (with_reducible refine fro_drew_of ?_) | (with_reducible refine fro_drewN_of ?_) | (with_reducible refine fro_below_of (by with_reducible assumption) (by (first | exact Nat.le_refl _ | omega | (simp; done) | (simp; omega))) ?_) | (with_reducible refine fro_alloc_of _ (by (first | exact Nat.le_refl _ | omega | (simp; done) | (simp; omega))) ?_) | (with_reducible refine fro_set_of _ ?_)))), (by repeat (first | (with_reducible exact Below.refl _ _) | (with_reducible refine Below.drew ?_) | (with_reducible refine below_drewN ?_ _) | ((with_reducible refine below_alloc ?_ ?_ _); · (first | exact Nat.le_refl _ | omega | (simp; done) | (simp; omega) | (simp at *; omega))) | ((with_reducible refine below_set ?_ ?_ _); · (first | exact Nat.le_refl _ | omega | (simp; done) | (simp; omega) | (simp at *; omega))) | ((with_reducible refine below_via (by with_reducible assumption) ?_ ?_); · (first | exact Nat.le_refl _ | omega | (simp; done) | (simp; omega) | (simp at *; omega))))), by simp⟩ ?_
  rintro W1 ⟨a1, hst0, hout, hb1, hs1⟩
  have HT0 := Lib.hid (show St0 W1 (W.heap.size + 1) from hst0)
  have HO1 := Lib.hid (show Out3 W1 (W.heap.size + 1 + 1) (.slice none 0 0) (.slice none 0 0) st.lots from hout)
  have HB1 := Lib.hid hb1
  have HA1 := Lib.hid a1
  clear hst0 hout hb1 a1
  go_loopw [14] (fun i wr => ∃ (k : Nat) (v : Value), k ≤ st.n ∧ i = .int .i64 k ∧ Hid (Out3 wr (W.heap.size + 1 + 1) v (.slice none 0 0) st.lots) ∧ Hid (wr.ownsRow W1.heap.size 116 4 v k (numCells (pkCell st.P) (k * 4))) ∧ Hid (W1.grownBy wr (some (W.heap.size + 1 + 1)))) (fun i _ => st.n - (intOf i).toNat)
  case atStart => exact ⟨0, _, Nat.zero_le _, rfl, HO1, Lib.hid (World.ownsRow_nil _ _ _ _), Lib.hid (World.grownBy.refl _ _)⟩
  case round =>
    obtain ⟨k, v, hk, rfl, ho, hown, hg⟩ := hrel
    have hsz := hg.out.size
    have HBW := Lib.hid (HB1.out.trans (gb_below hg.out (by omega) (by omega)))
    by_cases hlt : k < st.n
    · obtain ⟨b, o, rfl, hbl, c0, c1, c2, c3⟩ := (HS.out.p.below (HBW.out.mono hB)) k hlt
      have hk0 : (0 : Int) ≤ (k : Int) := by omega
      have hkn : (k : Int) < (st.n : Int) := by omega
      obtain ⟨⟨o0, o1, o2⟩, fo0, fo1⟩ := ho.out
      have hv1 := hown.out.lt
      generalize hpk : st.P k = x at c0 c1 c2 c3
      have HPK := Lib.hid hpk
      clear hpk
      go_wp2_with (at_builtin; refine wpList_append_own _ rfl (.tmp 19) (.tmp 21) 31 rfl W1.heap.size 116 i0 (.agg #[.int .i64 0, .int .i64 0, .int .i64 0, .int .i64 0]) 4 32 rpks_under hi hz0 hz1 hz2 rfl (by decide) v k (numCells (pkCell st.P) (k * 4)) rfl ((hown.out.alloc _).alloc _) ⟨wr.heap.size + 1, 0, none⟩ 1 1 [.int .i64 x.s, .int .i64 x.w, .int .i64 x.o, .int .i64 x.f] rfl rfl ?c1 ?c2 ?c3 ?c4 ?c5 ?_)
      case c1 =>
        intro j u hj
        have := new_cells (w := wr.alloc (.cells #[.int .i64 x.s, .int .i64 x.w, .int .i64 x.o, .int .i64 x.f] 75)) (t := 116) (cs := [.int .i64 x.s, .int .i64 x.w, .int .i64 x.o, .int .i64 x.f]) j u hj
        simpa using this
      case c2 => intro u hu; simp only [List.mem_cons, List.not_mem_nil, or_false] at hu; rcases hu with rfl | rfl | rfl | rfl <;> rfl
      case c3 => unfold maxLen; omega
      case c4 => omega
      case c5 => simp; omega
      intro v' w6 hown' hgr _
      obtain ⟨A', n', c', hv'⟩ : ∃ A' n' c', v' = .slice A' n' c' := by
        rcases hown'.2 with ⟨h, _⟩ | ⟨_, _, _, h, _⟩
        · exact ⟨_, _, _, h⟩
        · exact ⟨_, _, _, h⟩
      subst hv'
      have hs6 := hgr.size
      simp only [World.size_alloc] at hs6
      have hold : ∀ i, i < W1.heap.size → w6.heap[i]? = wr.heap[i]? := fun i hi => (hgr.block i (by simp; omega) (fun e => by have := (hv1 i e.symm).1; omega)).trans ((Below.heap_alloc _ _ _ (by simp; omega)).trans (Below.heap_alloc _ _ _ (by omega)))
      have ho6 := ho.out.same (hold _ hs1)
      have HO7 := Lib.hid (ho6.set0 (.slice A' n' c'))
      have HOWN7 : Hid ((w6.setCell ⟨W.heap.size + 1 + 1, 0, none⟩ (.slice A' n' c')).ownsRow W1.heap.size 116 4 (.slice A' n' c') (k + 1) (numCells (pkCell st.P) ((k + 1) * 4))) := Lib.hid (by
        rw [pkCells_succ, HPK.out]
        exact owns_keep hown' (fun g hg => set_heap _ (by simp; omega)))
      have HG7 : Hid (W1.grownBy (w6.setCell ⟨W.heap.size + 1 + 1, 0, none⟩ (.slice A' n' c')) (some (W.heap.size + 1 + 1))) := Lib.hid (gb_trans ⟨hgr.os.trans hg.out.os, hgr.tape.trans hg.out.tape, hgr.output.trans hg.out.output, by omega, fun i hi hne => (hold i hi).trans (hg.out.block i hi hne)⟩ (gb_set _ _ _ _))
      obtain ⟨⟨p0, p1, p2⟩, fp0, fp1⟩ := ho6
      clear hown' hgr hold o0 o1 o2 fo0 fo1 c0 c1 c2 c3
      go_wp2_with fail
      go_roundw
      case rel => exact ⟨k + 1, _, by omega, by go_num, HO7, HOWN7, HG7⟩
      case measure => simp [intOf]; omega
    · have hk' : k = st.n := by omega
      have hge : ¬ (k : Int) < (st.n : Int) := by omega
      obtain ⟨A, c, hv, hop, hcl⟩ := OwnPk.of_ownsT (P := st.P) (show wr.ownsRow W1.heap.size 116 4 v st.n (numCells (pkCell st.P) (st.n * 4)) by rw [hk'] at hown; exact hown.out)
      subst hv
      have HOP := Lib.hid hop
      have a1 := cell_same (hg.out.block W.heap.size (by omega) (by intro e; injection e with e; omega)) HA1.out
      have HT4 := Lib.hid (HT0.out.same (hg.out.block _ (by omega) (by intro e; injection e with e; omega)))
      clear hk' hop hown
      obtain ⟨wo, rfl⟩ : ∃ wo, wo = wr := ⟨_, rfl⟩
      go_wp2_with fail
      go_loopw [28] (fun i wr => ∃ (k : Nat) (v : Value), k ≤ st.m ∧ i = .int .i64 k ∧ Hid (Out3 wr (W.heap.size + 1 + 1) (.slice A st.n c) v st.lots) ∧ Hid (wr.ownsRow wo.heap.size 117 2 v k (numCells (gdCell st.G) (k * 2))) ∧ Hid (wo.grownBy wr (some (W.heap.size + 1 + 1)))) (fun i _ => st.m - (intOf i).toNat)
      case atStart => exact ⟨0, _, Nat.zero_le _, rfl, ho, Lib.hid (World.ownsRow_nil _ _ _ _), Lib.hid (World.grownBy.refl _ _)⟩
      case round =>
        clear a1 ho
        obtain ⟨k2, v, hk2, rfl, ho, hown, hg2⟩ := hrel
        have hsz2 := hg2.out.size
        have HBW2 := Lib.hid (HBW.out.trans (gb_below hg2.out (by omega) (by omega)))
        by_cases hlt2 : k2 < st.m
        · obtain ⟨b, o, rfl, hbl, c0, c1⟩ := (HS.out.g.below (HBW2.out.mono hB)) k2 hlt2
          have hk0 : (0 : Int) ≤ (k2 : Int) := by omega
          have hkn : (k2 : Int) < (st.m : Int) := by omega
          obtain ⟨⟨o0, o1, o2⟩, fo0, fo1⟩ := ho.out
          have hv1 := hown.out.lt
          generalize hgd : st.G k2 = x at c0 c1
          have HGD := Lib.hid hgd
          clear hgd
          go_wp2_with (at_builtin; refine wpList_append_own _ rfl (.tmp 33) (.tmp 35) 32 rfl wo.heap.size 117 j0 (.agg #[.int .i64 0, .int .i64 0]) 2 16 rgds_under ji jz0 jz1 jz2 rfl (by decide) v k2 (numCells (gdCell st.G) (k2 * 2)) rfl ((hown.out.alloc _).alloc _) ⟨wr.heap.size + 1, 0, none⟩ 1 1 [.int .i64 x.foul, .int .i64 x.price] rfl rfl ?c1 ?c2 ?c3 ?c4 ?c5 ?_)
          case c1 =>
            intro j u hj
            have := new_cells (w := wr.alloc (.cells #[.int .i64 x.foul, .int .i64 x.price] 82)) (t := 117) (cs := [.int .i64 x.foul, .int .i64 x.price]) j u hj
            simpa using this
          case c2 => intro u hu; simp only [List.mem_cons, List.not_mem_nil, or_false] at hu; rcases hu with rfl | rfl <;> rfl
          case c3 => unfold maxLen; omega
          case c4 => omega
          case c5 => simp; omega
          intro v' w6 hown' hgr _
          obtain ⟨A', n', c', hv'⟩ : ∃ A' n' c', v' = .slice A' n' c' := by
            rcases hown'.2 with ⟨h, _⟩ | ⟨_, _, _, h, _⟩
            · exact ⟨_, _, _, h⟩
            · exact ⟨_, _, _, h⟩
          subst hv'
          have hs6 := hgr.size
          simp only [World.size_alloc] at hs6
          have hold : ∀ i, i < wo.heap.size → w6.heap[i]? = wr.heap[i]? := fun i hi => (hgr.block i (by simp; omega) (fun e => by have := (hv1 i e.symm).1; omega)).trans ((Below.heap_alloc _ _ _ (by simp; omega)).trans (Below.heap_alloc _ _ _ (by omega)))
          have ho6 := ho.out.same (hold _ (by omega))
          have HO7 := Lib.hid (ho6.set1 (.slice A' n' c'))
          have HOWN7 : Hid ((w6.setCell ⟨W.heap.size + 1 + 1, 1, none⟩ (.slice A' n' c')).ownsRow wo.heap.size 117 2 (.slice A' n' c') (k2 + 1) (numCells (gdCell st.G) ((k2 + 1) * 2))) := Lib.hid (by
            rw [gdCells_succ, HGD.out]
            exact owns_keep hown' (fun g hg => set_heap _ (by simp; omega)))
          have HG7 : Hid (wo.grownBy (w6.setCell ⟨W.heap.size + 1 + 1, 1, none⟩ (.slice A' n' c')) (some (W.heap.size + 1 + 1))) := Lib.hid (gb_trans ⟨hgr.os.trans hg2.out.os, hgr.tape.trans hg2.out.tape, hgr.output.trans hg2.out.output, by omega, fun i hi hne => (hold i hi).trans (hg2.out.block i hi hne)⟩ (gb_set _ _ _ _))
          obtain ⟨⟨p0, p1, p2⟩, fp0, fp1⟩ := ho6
          clear hown' hgr hold o0 o1 o2 fo0 fo1 c0 c1
          go_wp2_with fail
          go_roundw
          case rel => exact ⟨k2 + 1, _, by omega, by go_num, HO7, HOWN7, HG7⟩
          case measure => simp [intOf]; omega
        · have hk2' : k2 = st.m := by omega
          have hge2 : ¬ (k2 : Int) < (st.m : Int) := by omega
          obtain ⟨A2, c2, hv, hog, hcl2⟩ := OwnGd.of_ownsT (P := st.G) (show wr.ownsRow wo.heap.size 117 2 v st.m (numCells (gdCell st.G) (st.m * 2)) by rw [hk2'] at hown; exact hown.out)
          subst hv
          have HOG := Lib.hid hog
          have HOP2 := Lib.hid (HOP.out.keep (w' := wr) (fun b hb1 hb2 => hg2.out.block b hb2 (by intro e; injection e with e; omega)))
          have ht := HT4.out.same (hg2.out.block _ (by omega) (by intro e; injection e with e; omega))
          obtain ⟨⟨o0, o1, o2⟩, fo0, fo1⟩ := ho.out
          obtain ⟨⟨t0, t1, t2⟩, ft0, ft1, ft2⟩ := ht
          clear hk2' hog hown
          go_wp2_with fail
          refine bodyPost_ret (v := stV A st.n c A2 st.m c2 st.lots) ?_ rfl ⟨?_, A, c, A2, c2, rfl, ?_, ?_, hcl, hcl2⟩
          · exact (by simp (maxDischargeDepth := 9) [results, Try.results20, go_sem, t0, t1, t2, stV])
          · exact ((HBW2.out.setCell (by simp) _).setCell (by simp) _).setCell (by simp) _
          · exact ((((HOP2.out.set (p := ⟨W.heap.size + 1, 0, none⟩) (by show W.heap.size + 1 < W1.heap.size; omega) (.slice A st.n c)).set (p := ⟨W.heap.size + 1, 1, none⟩) (by show W.heap.size + 1 < W1.heap.size; omega) (.slice A2 st.m c2)).set (p := ⟨W.heap.size + 1, 2, none⟩) (by show W.heap.size + 1 < W1.heap.size; omega) (.int .i64 st.lots))).mono (by omega)
          · exact ((((HOG.out.set (p := ⟨W.heap.size + 1, 0, none⟩) (by show W.heap.size + 1 < wo.heap.size; omega) (.slice A st.n c)).set (p := ⟨W.heap.size + 1, 1, none⟩) (by show W.heap.size + 1 < wo.heap.size; omega) (.slice A2 st.m c2)).set (p := ⟨W.heap.size + 1, 2, none⟩) (by show W.heap.size + 1 < wo.heap.size; omega) (.int .i64 st.lots))).mono (by omega)

set_option maxRecDepth 100000 in
set_option maxHeartbeats 4000000 in
theorem ours_any (st : St) (B : Nat) (pA gA : Option Addr) (pc gc : Nat) (W : World) (hs : StRow W B st pA pc gA gc) :
    Calls Try.prog 58 #[stV pA st.n pc gA st.m gc st.lots] W (CopyPost st W) := by
  have HS := Lib.hid hs
  have hB := hs.lt
  have hn := hs.n
  have hm := hs.m
  clear hs
  obtain ⟨i0, hi, hz0, hz1, hz2⟩ := info_parts infoPk
  obtain ⟨j0, ji, jz0, jz1, jz2⟩ := info_parts infoGd
  go_enter Try.func58, Try.ntmps58
  go_wp2_with fail
  refine wp_world (fun W1 => W1.cell? ⟨W.heap.size, 1, none⟩ = some (.slice gA st.m gc) ∧ ((W1.cell? ⟨W.heap.size + 1, 0, none⟩ = some (.slice none 0 0) ∧ W1.cell? ⟨W.heap.size + 1, 1, none⟩ = some (.slice none 0 0) ∧ W1.cell? ⟨W.heap.size + 1, 2, none⟩ = some (.int .i64 0)) ∧ W1.frozen? ⟨W.heap.size + 1, 0, none⟩ = false ∧ W1.frozen? ⟨W.heap.size + 1, 1, none⟩ = false ∧ W1.frozen? ⟨W.heap.size + 1, 2, none⟩ = false) ∧
    ((W1.cell? ⟨W.heap.size + 1 + 1, 0, none⟩ = some (.slice none 0 0) ∧ W1.cell? ⟨W.heap.size + 1 + 1, 1, none⟩ = some (.slice none 0 0) ∧ W1.cell? ⟨W.heap.size + 1 + 1, 2, none⟩ = some (.int .i64 st.lots)) ∧ W1.frozen? ⟨W.heap.size + 1 + 1, 0, none⟩ = false ∧ W1.frozen? ⟨W.heap.size + 1 + 1, 1, none⟩ = false) ∧ Below W.heap.size W W1 ∧ W.heap.size + 1 + 1 < W1.heap.size) ⟨(by (repeat' refine And.intro ?_ ?_) <;> (repeat (first | (with_reducible assumption) | (simp; done) | (with_reducible refine cell_drew_of ?_) | (with_reducible refine cell_drewN_of ?_) | (with_reducible refine cell_below_of (by with_reducible assumption) ?_) | ((with_reducible refine cell_new_of ?_ ?_) <;> (first | (with_reducible rfl) | (simp; done))) | ((with_reducible refine fro_new_of ?_) <;> (first | (with_reducible rfl) | (simp; done))) | (with_reducible refine cell_alloc_of _ ?_) | (with_reducible refine cell_set_of _ (by (first | exact Nat.le_refl _ | omega | (simp; done) | (simp; omega))) ?_) | (with_reducible refine fro_drew_of ?_) | (with_reducible refine fro_drewN_of ?_) | (with_reducible refine fro_below_of (by with_reducible assumption) (by (first | exact Nat.le_refl _ | omega | (simp; done) | (simp; omega))) ?_) | (with_reducible refine fro_alloc_of _ (by (first | exact Nat.le_refl _ | omega | (simp; done) | (simp; omega))) ?_) | (with_reducible refine fro_set_of _ ?_)))), (by (repeat' refine And.intro ?_ ?_) <;> (repeat (first | (with_reducible assumption) | (simp; done) | (with_reducible refine cell_drew_of ?_) | (with_reducible refine cell_drewN_of ?_) | (with_reducible refine cell_below_of (by with_reducible assumption) ?_) | ((with_reducible refine cell_new_of ?_ ?_) <;> (first | (with_reducible rfl) | (simp; done))) | ((with_reducible refine fro_new_of ?_) <;> (first | (with_reducible rfl) | (simp; done))) | (with_reducible refine cell_alloc_of _ ?_) | (with_reducible refine cell_set_of _ (by (first | exact Nat.le_refl _ | omega | (simp; done) | (simp; omega))) ?_) | (with_reducible refine fro_drew_of ?_) | (with_reducible refine fro_drewN_of ?_) | (with_reducible refine fro_below_of (by with_reducible assumption) (by (first | exact Nat.le_refl _ | omega | (simp; done) | (simp; omega))) ?_) | (with_reducible refine fro_alloc_of _ (by (first | exact Nat.le_refl _ | omega | (simp; done) | (simp; omega))) ?_) | (with_reducible refine fro_set_of _ ?_)))), (by (repeat' refine And.intro ?_ ?_) <;> (repeat (first | (with_reducible assumption) | (simp; done) | (with_reducible refine cell_drew_of ?_) | (with_reducible refine cell_drewN_of ?_) | (with_reducible refine cell_below_of (by with_reducible assumption) ?_) | ((with_reducible refine cell_new_of ?_ ?_) <;> (first | (with_reducible rfl) | (simp; done))) | ((with_reducible refine fro_new_of ?_) <;> (first | (with_reducible rfl) | (simp; done))) | (with_reducible refine cell_alloc_of _ ?_) | (with_reducible refine cell_set_of _ (by (first | exact Nat.le_refl _ | omega | (simp; done) | (simp; omega))) ?_) | (with_reducible refine fro_drew_of ?_) | (with_reducible refine fro_drewN_of ?_) | (with_reducible refine fro_below_of (by with_reducible assumption) (by (first | exact Nat.le_refl _ | omega | (simp; done) | (simp; omega))) ?_) | (with_reducible refine fro_alloc_of _ (by (first | exact Nat.le_refl _ | omega | (simp; done) | (simp; omega))) ?_) | (with_reducible refine fro_set_of _ ?_)))), (by repeat (first | (with_reducible exact Below.refl _ _) | (with_reducible refine Below.drew ?_) | (with_reducible refine below_drewN ?_ _) | ((with_reducible refine below_alloc ?_ ?_ _); · (first | exact Nat.le_refl _ | omega | (simp; done) | (simp; omega) | (simp at *; omega))) | ((with_reducible refine below_set ?_ ?_ _); · (first | exact Nat.le_refl _ | omega | (simp; done) | (simp; omega) | (simp at *; omega))) | ((with_reducible refine below_via (by with_reducible assumption) ?_ ?_); · (first | exact Nat.le_refl _ | omega | (simp; done) | (simp; omega) | (simp at *; omega))))), by simp⟩ ?_
  rintro W1 ⟨a1, hst0, hout, hb1, hs1⟩
  have HT0 := Lib.hid (show St0 W1 (W.heap.size + 1) from hst0)
  have HO1 := Lib.hid (show Out3 W1 (W.heap.size + 1 + 1) (.slice none 0 0) (.slice none 0 0) st.lots from hout)
  have HB1 := Lib.hid hb1
  have HA1 := Lib.hid a1
  clear hst0 hout hb1 a1
  go_loopw [14] (fun i wr => ∃ (k : Nat) (v : Value), k ≤ st.n ∧ i = .int .i64 k ∧ Hid (Out3 wr (W.heap.size + 1 + 1) v (.slice none 0 0) st.lots) ∧ Hid (wr.ownsRow W1.heap.size 75 4 v k (numCells (pkCell st.P) (k * 4))) ∧ Hid (W1.grownBy wr (some (W.heap.size + 1 + 1)))) (fun i _ => st.n - (intOf i).toNat)
  case atStart => exact ⟨0, _, Nat.zero_le _, rfl, HO1, Lib.hid (World.ownsRow_nil _ _ _ _), Lib.hid (World.grownBy.refl _ _)⟩
  case round =>
    obtain ⟨k, v, hk, rfl, ho, hown, hg⟩ := hrel
    have hsz := hg.out.size
    have HBW := Lib.hid (HB1.out.trans (gb_below hg.out (by omega) (by omega)))
    by_cases hlt : k < st.n
    · obtain ⟨b, o, rfl, hbl, c0, c1, c2, c3⟩ := (HS.out.p.below (HBW.out.mono hB)) k hlt
      have hk0 : (0 : Int) ≤ (k : Int) := by omega
      have hkn : (k : Int) < (st.n : Int) := by omega
      obtain ⟨⟨o0, o1, o2⟩, fo0, fo1⟩ := ho.out
      have hv1 := hown.out.lt
      generalize hpk : st.P k = x at c0 c1 c2 c3
      have HPK := Lib.hid hpk
      clear hpk
      go_wp2_with (at_builtin; refine wpList_append_own _ rfl (.tmp 19) (.tmp 21) 22 rfl W1.heap.size 75 i0 (.agg #[.int .i64 0, .int .i64 0, .int .i64 0, .int .i64 0]) 4 32 pks_under hi hz0 hz1 hz2 rfl (by decide) v k (numCells (pkCell st.P) (k * 4)) rfl ((hown.out.alloc _).alloc _) ⟨wr.heap.size + 1, 0, none⟩ 1 1 [.int .i64 x.s, .int .i64 x.w, .int .i64 x.o, .int .i64 x.f] rfl rfl ?c1 ?c2 ?c3 ?c4 ?c5 ?_)
      case c1 =>
        intro j u hj
        have := new_cells (w := wr.alloc (.cells #[.int .i64 x.s, .int .i64 x.w, .int .i64 x.o, .int .i64 x.f] 116)) (t := 75) (cs := [.int .i64 x.s, .int .i64 x.w, .int .i64 x.o, .int .i64 x.f]) j u hj
        simpa using this
      case c2 => intro u hu; simp only [List.mem_cons, List.not_mem_nil, or_false] at hu; rcases hu with rfl | rfl | rfl | rfl <;> rfl
      case c3 => unfold maxLen; omega
      case c4 => omega
      case c5 => simp; omega
      intro v' w6 hown' hgr _
      obtain ⟨A', n', c', hv'⟩ : ∃ A' n' c', v' = .slice A' n' c' := by
        rcases hown'.2 with ⟨h, _⟩ | ⟨_, _, _, h, _⟩
        · exact ⟨_, _, _, h⟩
        · exact ⟨_, _, _, h⟩
      subst hv'
      have hs6 := hgr.size
      simp only [World.size_alloc] at hs6
      have hold : ∀ i, i < W1.heap.size → w6.heap[i]? = wr.heap[i]? := fun i hi => (hgr.block i (by simp; omega) (fun e => by have := (hv1 i e.symm).1; omega)).trans ((Below.heap_alloc _ _ _ (by simp; omega)).trans (Below.heap_alloc _ _ _ (by omega)))
      have ho6 := ho.out.same (hold _ hs1)
      have HO7 := Lib.hid (ho6.set0 (.slice A' n' c'))
      have HOWN7 : Hid ((w6.setCell ⟨W.heap.size + 1 + 1, 0, none⟩ (.slice A' n' c')).ownsRow W1.heap.size 75 4 (.slice A' n' c') (k + 1) (numCells (pkCell st.P) ((k + 1) * 4))) := Lib.hid (by
        rw [pkCells_succ, HPK.out]
        exact owns_keep hown' (fun g hg => set_heap _ (by simp; omega)))
      have HG7 : Hid (W1.grownBy (w6.setCell ⟨W.heap.size + 1 + 1, 0, none⟩ (.slice A' n' c')) (some (W.heap.size + 1 + 1))) := Lib.hid (gb_trans ⟨hgr.os.trans hg.out.os, hgr.tape.trans hg.out.tape, hgr.output.trans hg.out.output, by omega, fun i hi hne => (hold i hi).trans (hg.out.block i hi hne)⟩ (gb_set _ _ _ _))
      obtain ⟨⟨p0, p1, p2⟩, fp0, fp1⟩ := ho6
      clear hown' hgr hold o0 o1 o2 fo0 fo1 c0 c1 c2 c3
      go_wp2_with fail
      go_roundw
      case rel => exact ⟨k + 1, _, by omega, by go_num, HO7, HOWN7, HG7⟩
      case measure => simp [intOf]; omega
    · have hk' : k = st.n := by omega
      have hge : ¬ (k : Int) < (st.n : Int) := by omega
      obtain ⟨A, c, hv, hop, hcl⟩ := OwnPk.of_ownsT (P := st.P) (show wr.ownsRow W1.heap.size 75 4 v st.n (numCells (pkCell st.P) (st.n * 4)) by rw [hk'] at hown; exact hown.out)
      subst hv
      have HOP := Lib.hid hop
      have a1 := cell_same (hg.out.block W.heap.size (by omega) (by intro e; injection e with e; omega)) HA1.out
      have HT4 := Lib.hid (HT0.out.same (hg.out.block _ (by omega) (by intro e; injection e with e; omega)))
      clear hk' hop hown
      obtain ⟨wo, rfl⟩ : ∃ wo, wo = wr := ⟨_, rfl⟩
      go_wp2_with fail
      go_loopw [28] (fun i wr => ∃ (k : Nat) (v : Value), k ≤ st.m ∧ i = .int .i64 k ∧ Hid (Out3 wr (W.heap.size + 1 + 1) (.slice A st.n c) v st.lots) ∧ Hid (wr.ownsRow wo.heap.size 82 2 v k (numCells (gdCell st.G) (k * 2))) ∧ Hid (wo.grownBy wr (some (W.heap.size + 1 + 1)))) (fun i _ => st.m - (intOf i).toNat)
      case atStart => exact ⟨0, _, Nat.zero_le _, rfl, ho, Lib.hid (World.ownsRow_nil _ _ _ _), Lib.hid (World.grownBy.refl _ _)⟩
      case round =>
        clear a1 ho
        obtain ⟨k2, v, hk2, rfl, ho, hown, hg2⟩ := hrel
        have hsz2 := hg2.out.size
        have HBW2 := Lib.hid (HBW.out.trans (gb_below hg2.out (by omega) (by omega)))
        by_cases hlt2 : k2 < st.m
        · obtain ⟨b, o, rfl, hbl, c0, c1⟩ := (HS.out.g.below (HBW2.out.mono hB)) k2 hlt2
          have hk0 : (0 : Int) ≤ (k2 : Int) := by omega
          have hkn : (k2 : Int) < (st.m : Int) := by omega
          obtain ⟨⟨o0, o1, o2⟩, fo0, fo1⟩ := ho.out
          have hv1 := hown.out.lt
          generalize hgd : st.G k2 = x at c0 c1
          have HGD := Lib.hid hgd
          clear hgd
          go_wp2_with (at_builtin; refine wpList_append_own _ rfl (.tmp 33) (.tmp 35) 23 rfl wo.heap.size 82 j0 (.agg #[.int .i64 0, .int .i64 0]) 2 16 gds_under ji jz0 jz1 jz2 rfl (by decide) v k2 (numCells (gdCell st.G) (k2 * 2)) rfl ((hown.out.alloc _).alloc _) ⟨wr.heap.size + 1, 0, none⟩ 1 1 [.int .i64 x.foul, .int .i64 x.price] rfl rfl ?c1 ?c2 ?c3 ?c4 ?c5 ?_)
          case c1 =>
            intro j u hj
            have := new_cells (w := wr.alloc (.cells #[.int .i64 x.foul, .int .i64 x.price] 117)) (t := 82) (cs := [.int .i64 x.foul, .int .i64 x.price]) j u hj
            simpa using this
          case c2 => intro u hu; simp only [List.mem_cons, List.not_mem_nil, or_false] at hu; rcases hu with rfl | rfl <;> rfl
          case c3 => unfold maxLen; omega
          case c4 => omega
          case c5 => simp; omega
          intro v' w6 hown' hgr _
          obtain ⟨A', n', c', hv'⟩ : ∃ A' n' c', v' = .slice A' n' c' := by
            rcases hown'.2 with ⟨h, _⟩ | ⟨_, _, _, h, _⟩
            · exact ⟨_, _, _, h⟩
            · exact ⟨_, _, _, h⟩
          subst hv'
          have hs6 := hgr.size
          simp only [World.size_alloc] at hs6
          have hold : ∀ i, i < wo.heap.size → w6.heap[i]? = wr.heap[i]? := fun i hi => (hgr.block i (by simp; omega) (fun e => by have := (hv1 i e.symm).1; omega)).trans ((Below.heap_alloc _ _ _ (by simp; omega)).trans (Below.heap_alloc _ _ _ (by omega)))
          have ho6 := ho.out.same (hold _ (by omega))
          have HO7 := Lib.hid (ho6.set1 (.slice A' n' c'))
          have HOWN7 : Hid ((w6.setCell ⟨W.heap.size + 1 + 1, 1, none⟩ (.slice A' n' c')).ownsRow wo.heap.size 82 2 (.slice A' n' c') (k2 + 1) (numCells (gdCell st.G) ((k2 + 1) * 2))) := Lib.hid (by
            rw [gdCells_succ, HGD.out]
            exact owns_keep hown' (fun g hg => set_heap _ (by simp; omega)))
          have HG7 : Hid (wo.grownBy (w6.setCell ⟨W.heap.size + 1 + 1, 1, none⟩ (.slice A' n' c')) (some (W.heap.size + 1 + 1))) := Lib.hid (gb_trans ⟨hgr.os.trans hg2.out.os, hgr.tape.trans hg2.out.tape, hgr.output.trans hg2.out.output, by omega, fun i hi hne => (hold i hi).trans (hg2.out.block i hi hne)⟩ (gb_set _ _ _ _))
          obtain ⟨⟨p0, p1, p2⟩, fp0, fp1⟩ := ho6
          clear hown' hgr hold o0 o1 o2 fo0 fo1 c0 c1
          go_wp2_with fail
          go_roundw
          case rel => exact ⟨k2 + 1, _, by omega, by go_num, HO7, HOWN7, HG7⟩
          case measure => simp [intOf]; omega
        · have hk2' : k2 = st.m := by omega
          have hge2 : ¬ (k2 : Int) < (st.m : Int) := by omega
          obtain ⟨A2, c2, hv, hog, hcl2⟩ := OwnGd.of_ownsT (P := st.G) (show wr.ownsRow wo.heap.size 82 2 v st.m (numCells (gdCell st.G) (st.m * 2)) by rw [hk2'] at hown; exact hown.out)
          subst hv
          have HOG := Lib.hid hog
          have HOP2 := Lib.hid (HOP.out.keep (w' := wr) (fun b hb1 hb2 => hg2.out.block b hb2 (by intro e; injection e with e; omega)))
          have ht := HT4.out.same (hg2.out.block _ (by omega) (by intro e; injection e with e; omega))
          obtain ⟨⟨o0, o1, o2⟩, fo0, fo1⟩ := ho.out
          obtain ⟨⟨t0, t1, t2⟩, ft0, ft1, ft2⟩ := ht
          clear hk2' hog hown
          go_wp2_with fail
          refine bodyPost_ret (v := stV A st.n c A2 st.m c2 st.lots) ?_ rfl ⟨?_, A, c, A2, c2, rfl, ?_, ?_, hcl, hcl2⟩
          · exact (by simp (maxDischargeDepth := 9) [results, Try.results58, go_sem, t0, t1, t2, stV])
          · exact ((HBW2.out.setCell (by simp) _).setCell (by simp) _).setCell (by simp) _
          · exact ((((HOP2.out.set (p := ⟨W.heap.size + 1, 0, none⟩) (by show W.heap.size + 1 < W1.heap.size; omega) (.slice A st.n c)).set (p := ⟨W.heap.size + 1, 1, none⟩) (by show W.heap.size + 1 < W1.heap.size; omega) (.slice A2 st.m c2)).set (p := ⟨W.heap.size + 1, 2, none⟩) (by show W.heap.size + 1 < W1.heap.size; omega) (.int .i64 st.lots))).mono (by omega)
          · exact ((((HOG.out.set (p := ⟨W.heap.size + 1, 0, none⟩) (by show W.heap.size + 1 < wo.heap.size; omega) (.slice A st.n c)).set (p := ⟨W.heap.size + 1, 1, none⟩) (by show W.heap.size + 1 < wo.heap.size; omega) (.slice A2 st.m c2)).set (p := ⟨W.heap.size + 1, 2, none⟩) (by show W.heap.size + 1 < wo.heap.size; omega) (.int .i64 st.lots))).mono (by omega)
end Go.Proofs.Ytegmomappbehcaa
