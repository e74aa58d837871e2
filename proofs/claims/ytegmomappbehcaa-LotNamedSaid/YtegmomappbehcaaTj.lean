/- The reference: lots. -/
import Derived.Test.YtegmomappbehcaaTi
set_option linter.unusedSimpArgs false
set_option linter.unusedVariables false
namespace Go.Proofs.Ytegmomappbehcaa
open Go.RowKit Go.Shelf

set_option maxRecDepth 100000 in
/-- append of numbers that came in, nil or not -/
theorem append_ints {w : World} {ops : Array Oper} {rest : List Oper} {o : Oper} {a : Act} {Q : Exit → Act → World → Prop} (hgd : o.guard = none) (s x : Operand)
    (ho : o.op = .call { callee := .builtin .append, args := #[s, x], argTypes := #[26, 26] }) (base : Nat) (v : Value) (n : Nat) (xs : List Value) (hs : a.eval s = v) (hown : w.ownsRow base 3 1 v n xs)
    (A : Option Addr) (m c : Nat) (X : Nat → Int) (hx : a.eval x = .slice A m c) (hA : A = none → m = 0 ∧ c = 0) (hr : IntRow w w.heap.size A m X) (hb : n + m ≤ 1000000) (hbase : base ≤ w.heap.size)
    (h : ∀ v' w', w'.ownsRow base 3 1 v' (n + m) (xs ++ numCells X m) → w.grownBy w' v.ownBlock → wpList Try.prog ops Q rest (a.put o.dst v') w') : wpList Try.prog ops Q (o :: rest) a w := by
  obtain ⟨i0, hi, hz0, hz1, hz2⟩ := info_parts infoInt
  cases A with
  | none =>
    obtain ⟨rfl, rfl⟩ := hA rfl
    exact wpList_append_own_none hgd s x 26 ho base 3 i0 1 ints_under hi v n xs hs hown hx (h v w (by simpa [numCells] using hown) (World.grownBy.refl _ _))
  | some ad =>
    refine wpList_append_own _ hgd s x 26 ho base 3 i0 (.int .i64 0) 1 8 ints_under hi hz0 hz1 hz2 rfl (by decide) v n xs hs hown ad m c (numCells X m) hx (by rw [numCells_len]; omega) (fun j u hj => ?_) (numCells_one _ _) (by unfold maxLen; omega) (by omega) hbase (fun v' w' h1 h2 _ => h v' w' h1 h2)
    have hjn : j < m := by have := (List.getElem?_eq_some_iff.1 hj).1; rwa [numCells_len] at this
    rw [numCells_get _ hjn] at hj
    injection hj with hj
    subst hj
    obtain ⟨b, off, hA, _, hc⟩ := hr j hjn
    injection hA with hA
    subst hA
    rw [Addr.add_lit]
    exact hc

/-- a row of numbers that is one value -/
def RowV (w : World) (B : Nat) (n : Nat) (v : Value) (x : Bag) : Prop := ∃ rA rc, v = .slice rA n rc ∧ n ≤ rc ∧ IntRow w B rA n x.at ∧ (rA = none → n = 0 ∧ rc = 0)
theorem RowV.later {w w' : World} {n : Nat} {v : Value} {x : Bag} (h : RowV w w.heap.size n v x) (hb : Below w.heap.size w w') : RowV w' w'.heap.size n v x := by
  obtain ⟨rA, rc, h1, h2, h3, h4⟩ := h
  exact ⟨rA, rc, h1, h2, h3.later hb, h4⟩
/-- rows of numbers, one for each bag -/
def RowsN (w : World) (B : Nat) (A : Option Addr) (n : Nat) (L : List Bag) : Prop :=
  ∀ k x, L[k]? = some x → ∃ b o v, A = some ⟨b, o, none⟩ ∧ b < B ∧ w.cell? ⟨b, o + k, none⟩ = some v ∧ RowV w B n v x
theorem RowsN.later {w w' : World} {A : Option Addr} {n : Nat} {L : List Bag} (h : RowsN w w.heap.size A n L) (hb : Below w.heap.size w w') : RowsN w' w'.heap.size A n L := fun k x hx => by
  obtain ⟨b, o, v, h1, h2, h3, h4⟩ := h k x hx
  exact ⟨b, o, v, h1, Nat.lt_of_lt_of_le h2 hb.size, (hb.cell (p := ⟨b, _, none⟩) h2).trans h3, h4.later hb⟩
/-- a row of a call's own that lies outside a block -/
def RowOff (w : World) (n : Nat) (v : Value) (x : Bag) (m : Option Nat) : Prop := ∃ g rc, v = .slice (some ⟨g, 0, none⟩) n rc ∧ n ≤ rc ∧ g < w.heap.size ∧ (∀ j, j < n → w.cell? ⟨g, j, none⟩ = some (.int .i64 (x.at j))) ∧ m ≠ some g
theorem RowOff.v {w : World} {n : Nat} {v : Value} {x : Bag} {m : Option Nat} (h : RowOff w n v x m) (hn : 0 < n) : RowV w w.heap.size n v x := by
  obtain ⟨g, rc, h1, h2, h3, h4, _⟩ := h
  exact ⟨_, rc, h1, h2, fun k hk => ⟨g, 0, rfl, h3, by rw [Nat.zero_add]; exact h4 k hk⟩, fun e => by cases e⟩
theorem RowOff.keep {w w' : World} {n : Nat} {v : Value} {x : Bag} {m : Option Nat} (h : RowOff w n v x m) (hs : w.heap.size ≤ w'.heap.size) (hk : ∀ i, i < w.heap.size → m ≠ some i → w'.heap[i]? = w.heap[i]?) :
    ∃ g rc, v = .slice (some ⟨g, 0, none⟩) n rc ∧ n ≤ rc ∧ g < w'.heap.size ∧ (∀ j, j < n → w'.cell? ⟨g, j, none⟩ = some (.int .i64 (x.at j))) := by
  obtain ⟨g, rc, h1, h2, h3, h4, h5⟩ := h
  exact ⟨g, rc, h1, h2, Nat.lt_of_lt_of_le h3 hs, fun j hj => cell_same (hk g h3 h5) (h4 j hj)⟩

set_option maxRecDepth 100000 in
set_option maxHeartbeats 4000000 in
theorem rlots_any (n : Nat) (hn : n ≤ 4) (left : Bag) (h6 : ∀ k, k < 4 → 0 ≤ left.at k ∧ left.at k ≤ 6) (lA : Option Addr) (lc : Nat) (W : World) (hl : IntRow W W.heap.size lA n left.at) :
    Calls Try.prog 83 #[.slice lA n lc] W fun e W' => (∃ A c, e = .returned (.slice A (pre left n).length c) ∧ RowsN W' W'.heap.size A n (pre left n) ∧ (pre left n).length ≤ c) ∧ Below W.heap.size W W' := by
  have HL := Lib.hid hl
  have H6 := Lib.hid h6
  clear hl h6
  obtain ⟨i0, hi, hz0, hz1, hz2⟩ := info_parts infoInt
  obtain ⟨j0, ji, jz0, jz1, jz2⟩ := info_parts infoRow
  go_enter Try.func83, Try.ntmps83
  go_wp2_with fail
  go_loopw [3, 4] (fun v i wr => ∃ (k : Nat) (A : Option Addr) (c : Nat), k ≤ n ∧ i = .int .i64 k ∧ v = .slice A (pre left k).length c ∧ (pre left k).length ≤ c ∧ Hid (RowsN wr wr.heap.size A k (pre left k)) ∧ Hid (Below W.heap.size W wr)) (fun _ i _ => n - (intOf i).toNat)
  case atStart =>
    refine ⟨0, some ⟨W.heap.size, 0, none⟩, 1, by omega, rfl, rfl, Nat.le_refl _, Lib.hid (fun k x hx => ?_), Lib.hid (by repeat (first | (with_reducible exact Below.refl _ _) | (with_reducible refine Below.drew ?_) | (with_reducible refine below_drewN ?_ _) | ((with_reducible refine below_alloc ?_ ?_ _); · (first | exact Nat.le_refl _ | omega | (simp; done) | (simp; omega) | (simp at *; omega))) | ((with_reducible refine below_set ?_ ?_ _); · (first | exact Nat.le_refl _ | omega | (simp; done) | (simp; omega) | (simp at *; omega))) | ((with_reducible refine below_via (by with_reducible assumption) ?_ ?_); · (first | exact Nat.le_refl _ | omega | (simp; done) | (simp; omega) | (simp at *; omega)))))⟩
    have hk : k = 0 := by have := (List.getElem?_eq_some_iff.1 hx).1; simp [pre] at this; exact this
    subst hk
    exact ⟨_, _, _, rfl, by simp, (by (repeat' refine And.intro ?_ ?_) <;> (repeat (first | (with_reducible assumption) | (simp; done) | (with_reducible refine cell_drew_of ?_) | (with_reducible refine cell_drewN_of ?_) | (with_reducible refine cell_below_of (by with_reducible assumption) ?_) | ((with_reducible refine cell_new_of ?_ ?_) <;> (first | (with_reducible rfl) | (simp; done))) | ((with_reducible refine fro_new_of ?_) <;> (first | (with_reducible rfl) | (simp; done))) | (with_reducible refine cell_alloc_of _ ?_) | (with_reducible refine cell_set_of _ (by (first | exact Nat.le_refl _ | omega | (simp; done) | (simp; omega))) ?_) | (with_reducible refine fro_drew_of ?_) | (with_reducible refine fro_drewN_of ?_) | (with_reducible refine fro_below_of (by with_reducible assumption) (by (first | exact Nat.le_refl _ | omega | (simp; done) | (simp; omega))) ?_) | (with_reducible refine fro_alloc_of _ (by (first | exact Nat.le_refl _ | omega | (simp; done) | (simp; omega))) ?_) | (with_reducible refine fro_set_of _ ?_)))), none, 0, rfl, Nat.le_refl _, fun k hk => absurd hk (by omega), fun _ => ⟨rfl, rfl⟩⟩
  case round =>
    obtain ⟨k, A, c, hk, rfl, rfl, hlc, hr, hbw⟩ := hrel
    have hsw := hbw.out.size
    by_cases hlt : k < n
    · have hkn : (k : Int) < (n : Int) := by omega
      obtain ⟨wo, rfl⟩ : ∃ wo, wo = wr := ⟨_, rfl⟩
      have hpl : (pre left k).length ≤ 2401 := Nat.le_trans (pre_length (fun k hk => (H6.out k hk).2) k (by omega)) (Nat.le_trans (Nat.pow_le_pow_right (by omega) (by omega : k ≤ 4)) (by decide))
      go_wp2_with fail
      go_loopw [5, 6] (fun v i wy => ∃ (K : Nat) (vs : List Value), K ≤ (pre left k).length ∧ i = .int .i64 K ∧ vs.length = (preK left k K).length ∧ Hid (wy.ownsRow wo.heap.size 26 1 v (preK left k K).length vs) ∧ Hid (Below wo.heap.size wo wy) ∧
        Hid (∀ (j : Nat) (x : Bag), (preK left k K)[j]? = some x → ∃ u : Value, vs[j]? = some u ∧ RowOff wy (k + 1) u x v.ownBlock)) (fun _ i _ => (pre left k).length - (intOf i).toNat)
      case atStart => exact ⟨0, [], by omega, rfl, rfl, Lib.hid (World.ownsRow_nil _ _ _ _), Lib.hid (Below.refl _ _), Lib.hid (fun j x hx => by simp [preK_zero] at hx)⟩
      case round =>
        obtain ⟨K, vs, hK, rfl, hvl, hown, hby, hrs⟩ := hrel
        have hsy := hby.out.size
        by_cases hltK : K < (pre left k).length
        · obtain ⟨x, hx⟩ : ∃ x, (pre left k)[K]? = some x := ⟨(pre left k)[K], List.getElem?_eq_getElem hltK⟩
          have HX := Lib.hid hx
          have HKS := Lib.hid (preK_succ hx)
          obtain ⟨b, o, v0, rfl, hbl, c0, rA, rc, rfl, hrc, hri, hrn⟩ := hr.out K x hx
          have HRI := Lib.hid hri
          have HC0 := Lib.hid c0
          have HRN := Lib.hid hrn
          have hK0 : (0 : Int) ≤ (K : Int) := by omega
          have hKl : (K : Int) < ((pre left k).length : Int) := by omega
          have hlk := H6.out k (by omega)
          have hp0 : (preK left k K).length ≤ 16807 := by
            have h1 := length_flatMap_le (c := 7) (f := fun b : Bag => (List.range (left.at k + 1).toNat).map fun n : Nat => b.set k n) ((pre left k).take K) (fun x _ => by simp; omega)
            have h2 : ((pre left k).take K).length ≤ 2401 := Nat.le_trans (by rw [List.length_take]; omega) hpl
            show ((((pre left k).take K).flatMap _)).length ≤ _
            omega
          generalize hP0 : preK left k K = P0 at *
          have HLK := Lib.hid hltK
          clear hx hri c0 hrn hltK
          go_wp2_with fail
          go_loopw [5, 7] (fun v i wz => ∃ (N : Nat) (vs : List Value), (N : Int) ≤ left.at k + 1 ∧ i = .int .i64 N ∧ vs.length = P0.length + N ∧ Hid (wz.ownsRow wo.heap.size 26 1 v (P0.length + N) vs) ∧ Hid (Below wo.heap.size wo wz) ∧
            Hid (∀ (j : Nat) (y : Bag), (P0 ++ (List.range N).map fun n : Nat => x.set k n)[j]? = some y → ∃ u : Value, vs[j]? = some u ∧ RowOff wz (k + 1) u y v.ownBlock)) (fun _ i _ => (left.at k + 1 - intOf i).toNat)
          case atStart => exact ⟨0, vs, by omega, rfl, by omega, Lib.hid hown.out, hby, Lib.hid (fun j y hj => hrs.out j y (by simpa using hj))⟩
          case round =>
            clear hown hby hrs hvl hsy
            rename_i wq0
            obtain ⟨N, vs, hN, rfl, hvl, hown, hby, hrs⟩ := hrel
            have hsy := hby.out.size
            obtain ⟨lb, lo, rfl, hlb, l0⟩ := (HL.out.below (hbw.out.trans (hby.out.mono hsw))) k hlt
            have hk0 : (0 : Int) ≤ (k : Int) := by omega
            have c0 := cell_same (hby.out.block b hbl) HC0.out
            by_cases hltN : (N : Int) ≤ left.at k
            · have hv1 := hown.out.lt
              have HRW := Lib.hid (HRI.out.later hby.out)
              go_wp2_with (at_builtin; refine append_ints rfl (.tmp 30) (.tmp 34) rfl wr.heap.size (.slice (some ⟨wr.heap.size, 0, none⟩) 0 0) 0 [] rfl (World.ownsRow_made wr #[] 0 (Nat.le_refl _) (Nat.zero_le _) rfl) rA k rc x.at rfl HRN.out (HRW.out.later (by repeat (first | (with_reducible exact Below.refl _ _) | (with_reducible refine Below.drew ?_) | (with_reducible refine below_drewN ?_ _) | ((with_reducible refine below_alloc ?_ ?_ _); · (first | exact Nat.le_refl _ | omega | (simp; done) | (simp; omega) | (simp at *; omega))) | ((with_reducible refine below_set ?_ ?_ _); · (first | exact Nat.le_refl _ | omega | (simp; done) | (simp; omega) | (simp at *; omega))) | ((with_reducible refine below_via (by with_reducible assumption) ?_ ?_); · (first | exact Nat.le_refl _ | omega | (simp; done) | (simp; omega) | (simp at *; omega)))))) (by omega) (by simp) ?_)
              intro v1 w4 hown1 hgr1
              have hs4 := hgr1.size
              simp only [World.size_alloc] at hs4
              have hold1 : ∀ i, i < wr.heap.size → w4.heap[i]? = wr.heap[i]? := fun i hi => (hgr1.block i (by simp; omega) (by intro e; simp [Value.ownBlock] at e; omega)).trans (Below.heap_alloc _ _ _ hi)
              have HB4 : Hid (Below wr.heap.size wr w4) := Lib.hid ⟨hgr1.os, hgr1.tape, hgr1.output, by omega, hold1⟩
              have HOWN1 := Lib.hid hown1
              have hv2 := hown1.lt
              clear hold1 hgr1 hown1
              go_wp2_with (at_builtin; refine wpList_append_own _ rfl (.tmp 35) (.tmp 37) 26 rfl wr.heap.size 3 i0 (.int .i64 0) 1 8 ints_under hi hz0 hz1 hz2 rfl (by decide) v1 k (numCells x.at k) rfl (HOWN1.out.alloc _) ⟨w4.heap.size, 0, none⟩ 1 1 [.int .i64 N] rfl rfl ?c1 ?c2 ?c3 ?c4 ?c5 ?_)
              case c1 => exact new_cells (cs := [.int .i64 N])
              case c2 => intro u hu; simp only [List.mem_cons, List.not_mem_nil, or_false] at hu; subst hu; rfl
              case c3 => unfold maxLen; omega
              case c4 => omega
              case c5 => simp; omega
              intro v2 w5 hown2 hgr2 _
              have hs5 := hgr2.size
              simp only [World.size_alloc] at hs5
              have HB5 : Hid (Below wr.heap.size wr w5) := Lib.hid ⟨hgr2.os.trans HB4.out.os, hgr2.tape.trans HB4.out.tape, hgr2.output.trans HB4.out.output, by omega, fun i hi => (hgr2.block i (by simp; omega) (fun e => by have := (hv2 i e.symm).1; omega)).trans ((Below.heap_alloc _ _ _ (by omega)).trans (HB4.out.block i hi))⟩
              obtain ⟨rg, rcap, hv2e, hrg, hrow⟩ : ∃ rg rcap, v2 = .slice (some ⟨rg, 0, none⟩) (k + 1) rcap ∧ (wr.heap.size ≤ rg ∧ rg < w5.heap.size ∧ k + 1 ≤ rcap) ∧ ∀ j, j < k + 1 → w5.cell? ⟨rg, j, none⟩ = some (.int .i64 ((x.set k N).at j)) := by
                rcases hown2.2 with ⟨_, h0⟩ | ⟨g, cap, cur, e1, hb1, hg1, hc1, _⟩
                · omega
                · refine ⟨g, cap, e1, ⟨hb1, (Array.getElem?_eq_some_iff.1 hg1).1, hc1⟩, fun j hj => ?_⟩
                  have e2 : (numCells x.at k ++ [Value.int .i64 N])[j]? = some (.int .i64 ((x.set k N).at j)) := by
                    rw [Bag.at_set (by omega)]
                    by_cases e : j = k
                    · subst e
                      rw [if_pos rfl, List.getElem?_append_right (by rw [numCells_len]; omega), numCells_len]
                      simp
                    · rw [if_neg e, List.getElem?_append_left (by rw [numCells_len]; omega), numCells_get _ (by omega)]
                  have h1 := hown2.cells (g := g) (by rw [e1]; rfl) j _ e2
                  rwa [show ((⟨g, 0, none⟩ : Addr).add j) = ⟨g, j, none⟩ by by_cases hj : j = 0 <;> simp [Addr.add, hj]] at h1
              subst hv2e
              have HROW := Lib.hid hrow
              have HOWN5 := Lib.hid (owns_later hown.out HB5.out)
              clear hown2 hgr2 hv2 hrow
              go_wp2_with (at_builtin; refine wpList_append_own _ rfl (.tmp 29) (.tmp 39) 84 rfl wo.heap.size 26 j0 (.slice none 0 0) 1 24 rows_under ji jz0 jz1 jz2 rfl (by decide) u5 (P0.length + N) vs rfl (HOWN5.out.alloc _) ⟨w5.heap.size, 0, none⟩ 1 1 [.slice (some ⟨rg, 0, none⟩) (k + 1) rcap] rfl rfl ?d1 ?d2 ?d3 ?d4 ?d5 ?_)
              case d1 => exact new_cells (cs := [.slice (some ⟨rg, 0, none⟩) (k + 1) rcap])
              case d2 => intro u hu; simp only [List.mem_cons, List.not_mem_nil, or_false] at hu; subst hu; rfl
              case d3 => unfold maxLen; omega
              case d4 => omega
              case d5 => simp; omega
              intro v3 w6 hown3 hgr3 _
              have hs6 := hgr3.size
              simp only [World.size_alloc] at hs6
              have hkw : ∀ i, i < w5.heap.size → u5.ownBlock ≠ some i → w6.heap[i]? = w5.heap[i]? := fun i hi hn => (hgr3.block i (by simp; omega) (fun e => hn e.symm)).trans (Below.heap_alloc _ _ _ hi)
              have HB6 : Hid (Below wo.heap.size wo w6) := Lib.hid ((hby.out.trans (HB5.out.mono hsy)).trans ⟨hgr3.os, hgr3.tape, hgr3.output, by omega, fun i hi => hkw i (by omega) (fun e => by have := (hv1 i e).1; omega)⟩)
              have hvl2 : (vs ++ [Value.slice (some ⟨rg, 0, none⟩) (k + 1) rcap]).length = P0.length + (N + 1) := by rw [List.length_append, hvl]; rfl
              have hold : ∀ (j : Nat) (y : Bag), (P0 ++ (List.range (N + 1)).map fun n : Nat => x.set k n)[j]? = some y → ∃ g rc, (vs ++ [Value.slice (some ⟨rg, 0, none⟩) (k + 1) rcap])[j]? = some (.slice (some ⟨g, 0, none⟩) (k + 1) rc) ∧ k + 1 ≤ rc ∧ g < w6.heap.size ∧ ∀ i, i < k + 1 → w6.cell? ⟨g, i, none⟩ = some (.int .i64 (y.at i)) := fun j y hy => by
                rw [List.range_succ, List.map_append, ← List.append_assoc] at hy
                rcases Nat.lt_or_ge j (P0.length + N) with h | h
                · rw [List.getElem?_append_left (by simp; omega)] at hy
                  obtain ⟨u, hu, hro⟩ := hrs.out j y hy
                  obtain ⟨g, rc, e1, e2, e3, e4⟩ := hro.keep (w' := w5) (show wr.heap.size ≤ w5.heap.size by omega) (fun i hi _ => HB5.out.block i hi)
                  subst e1
                  obtain ⟨_, _, e1', _, e3', _, e5⟩ := hro
                  injection e1' with e1'
                  injection e1' with e1'
                  injection e1' with e1'
                  subst e1'
                  refine ⟨g, rc, by rw [List.getElem?_append_left (by omega)]; exact hu, e2, by omega, fun i hi => cell_same (hkw g e3 e5) (e4 i hi)⟩
                · have hj : j = P0.length + N := by
                    have := (List.getElem?_eq_some_iff.1 hy).1
                    simp at this
                    omega
                  subst hj
                  rw [List.getElem?_append_right (by simp)] at hy
                  simp at hy
                  subst hy
                  refine ⟨rg, rcap, by rw [List.getElem?_append_right (by omega), hvl]; simp, hrg.2.2, by omega, fun i hi => cell_same (hkw rg hrg.2.1 (fun e => by have := (hv1 rg e).2; omega)) (HROW.out i hi)⟩
              have hnew : Hid (∀ (j : Nat) (y : Bag), (P0 ++ (List.range (N + 1)).map fun n : Nat => x.set k n)[j]? = some y → ∃ u : Value, (vs ++ [Value.slice (some ⟨rg, 0, none⟩) (k + 1) rcap])[j]? = some u ∧ RowOff w6 (k + 1) u y v3.ownBlock) := Lib.hid (fun j y hy => by
                obtain ⟨g, rc, e1, e2, e3, e4⟩ := hold j y hy
                refine ⟨_, e1, g, rc, rfl, e2, e3, e4, fun e => ?_⟩
                obtain ⟨y0, hy0⟩ : ∃ y0, (P0 ++ (List.range (N + 1)).map fun n : Nat => x.set k n)[0]? = some y0 := ⟨_, List.getElem?_eq_getElem (by simp; omega)⟩
                obtain ⟨g0, rc0, f1, _⟩ := hold 0 y0 hy0
                have h1 := hown3.cells e 0 _ f1
                simp only [Addr.add] at h1
                have h2 := e4 0 (by omega)
                have h3 : w6.cell? ⟨g, 0, none⟩ = some (.slice (some ⟨g0, 0, none⟩) (k + 1) rc0) := by simpa using h1
                rw [h2] at h3
                injection h3 with h3
                cases h3)
              have HOWN6 : Hid (w6.ownsRow wo.heap.size 26 1 v3 (P0.length + (N + 1)) (vs ++ [Value.slice (some ⟨rg, 0, none⟩) (k + 1) rcap])) := Lib.hid hown3
              clear hown3 hgr3 hkw hold
              have ewN : IntKind.i64.wrap ((N : Int) + 1) = ((N + 1 : Nat) : Int) := by rw [IntWalk.i64_in _ (by omega)]; omega
              go_wp2_with fail
              go_roundw
              case rel => exact ⟨N + 1, _, by omega, rfl, hvl2, HOWN6, HB6, hnew⟩
              case measure => simp [intOf]; omega
            · have hNe : N = (left.at k + 1).toNat := by omega
              have HEQ : Hid (P0 ++ (List.range N).map (fun n : Nat => x.set k n) = preK left k (K + 1)) := Lib.hid (by rw [HKS.out, hNe])
              have HLE : Hid (P0.length + N = (preK left k (K + 1)).length) := Lib.hid (by rw [← HEQ.out]; simp)
              clear c0
              go_wp2_with fail
              go_roundw
              case rel => exact ⟨K + 1, vs, HLK.out, by go_num, by rw [← HLE.out]; exact hvl, Lib.hid (by rw [← HLE.out]; exact hown.out), hby, Lib.hid (by rw [← HEQ.out]; exact hrs.out)⟩
              case measure => have := HLK.out; simp [intOf]; omega
        · have hK' : K = (pre left k).length := by omega
          have hge : ¬ (K : Int) < ((pre left k).length : Int) := by omega
          have HEQ : Hid (preK left k K = pre left (k + 1)) := Lib.hid (by rw [hK', preK_all])
          have hres : Hid (∃ A c, u5 = .slice A (pre left (k + 1)).length c ∧ (pre left (k + 1)).length ≤ c ∧ RowsN wr wr.heap.size A (k + 1) (pre left (k + 1))) := Lib.hid (by
            have hown := hown.out
            have hrs := hrs.out
            rw [HEQ.out] at hown hrs hvl
            rcases hown.2 with ⟨h1, h2⟩ | ⟨g, cap, cur, h1, hb, hg, hc, _⟩
            · refine ⟨none, 0, by rw [h1, h2], by omega, fun j x hj => ?_⟩
              have : j < (pre left (k + 1)).length := (List.getElem?_eq_some_iff.1 hj).1
              omega
            · refine ⟨some ⟨g, 0, none⟩, cap, h1, hc, fun j x hj => ?_⟩
              obtain ⟨u, hu, hro⟩ := hrs j x hj
              refine ⟨g, 0, u, rfl, (Array.getElem?_eq_some_iff.1 hg).1, ?_, hro.v (by omega)⟩
              rw [show (⟨g, 0 + j, none⟩ : Addr) = (⟨g, 0, none⟩ : Addr).add j by by_cases hj : j = 0 <;> simp [Addr.add, hj]]
              exact hown.cells (g := g) (by rw [h1]; rfl) j _ hu)
          obtain ⟨A', c', hu, hlc', hrows⟩ := hres.out
          have HR2 := Lib.hid hrows
          have HBW2 := Lib.hid (hbw.out.trans (hby.out.mono hsw))
          subst hu
          clear hK' hrows
          go_wp2_with fail
          go_roundw
          case rel => exact ⟨k + 1, A', c', by omega, by go_num, rfl, hlc', HR2, HBW2⟩
          case measure => simp [intOf]; omega
    · have hk' : k = n := by omega
      have hge : ¬ (k : Int) < (n : Int) := by omega
      have HR : Hid (RowsN wr wr.heap.size A n (pre left n)) := Lib.hid (by rw [hk'] at hr; exact hr.out)
      have HK := Lib.hid hk'
      clear hk'
      go_wp2_with fail
      go_ret
      exact ⟨⟨A, c, by rw [← HK.out]; rfl, HR.out, by rw [← HK.out]; exact hlc⟩, hbw.out⟩
end Go.Proofs.Ytegmomappbehcaa
