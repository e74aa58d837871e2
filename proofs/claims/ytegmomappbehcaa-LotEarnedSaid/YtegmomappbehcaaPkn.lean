/- LotEarned: the joined statement. -/
import Derived.Test.YtegmomappbehcaaTp
import Derived.Test.YtegmomappbehcaaWy
import Derived.Test.YtegmomappbehcaaWs
import Derived.Test.YtegmomappbehcaaPkm
import Derived.Deep.AppendLies
import Derived.Test.YtegmomappbehcaaWw
import Derived.Test.YtegmomappbehcaaRows
import Derived.Test.YtegmomappbehcaaPo
set_option linter.unusedSimpArgs false
set_option linter.unusedVariables false
namespace Go.Proofs.Ytegmomappbehcaa
open Go.RowKit Go.Shelf

/-- rows that were copied so far -/
def RowsAt (w : World) (lo : Nat) (v : Value) (k : Nat) (L : Nat → Nat × (Nat → Int)) (vs : List Value) : Prop :=
  ∀ j, j < k → ∃ rA rc, vs[j]? = some (.slice rA (L j).1 rc) ∧ (L j).1 ≤ rc ∧ ∀ i, i < (L j).1 → ∃ b, rA = some ⟨b, 0, none⟩ ∧ lo ≤ b ∧ b < w.heap.size ∧ v.ownBlock ≠ some b ∧ w.cell? ⟨b, i, none⟩ = some (.int .i64 ((L j).2 i))
/-- rows of numbers of one's own -/
def PlanOwn (w : World) (lo : Nat) (A : Option Addr) (m : Nat) (L : Nat → Nat × (Nat → Int)) : Prop :=
  ∀ k, k < m → ∃ b rA rc, A = some ⟨b, 0, none⟩ ∧ lo ≤ b ∧ b < w.heap.size ∧ w.cell? ⟨b, k, none⟩ = some (.slice rA (L k).1 rc) ∧ (L k).1 ≤ rc ∧ ∀ i, i < (L k).1 → ∃ rb, rA = some ⟨rb, 0, none⟩ ∧ lo ≤ rb ∧ rb < w.heap.size ∧ w.cell? ⟨rb, i, none⟩ = some (.int .i64 ((L k).2 i))
theorem PlanOwn.row {w : World} {lo m : Nat} {A : Option Addr} {L : Nat → Nat × (Nat → Int)} (h : PlanOwn w lo A m L) : PlanRow w w.heap.size A m L := fun k hk => by
  obtain ⟨b, rA, rc, h1, h2, h3, h4, h5, h6⟩ := h k hk
  refine ⟨b, 0, rA, rc, h1, h3, by rw [Nat.zero_add]; exact h4, h5, fun i hi => ?_⟩
  obtain ⟨rb, e1, e2, e3, e4⟩ := h6 i hi
  exact ⟨rb, 0, e1, e3, by rw [Nat.zero_add]; exact e4⟩
theorem PlanOwn.keep {w w' : World} {lo m : Nat} {A : Option Addr} {L : Nat → Nat × (Nat → Int)} (h : PlanOwn w lo A m L) (hs : w.heap.size ≤ w'.heap.size) (hk : ∀ b, lo ≤ b → b < w.heap.size → w'.heap[b]? = w.heap[b]?) : PlanOwn w' lo A m L := fun k hkm => by
  obtain ⟨b, rA, rc, h1, h2, h3, h4, h5, h6⟩ := h k hkm
  refine ⟨b, rA, rc, h1, h2, by omega, cell_same (hk b h2 h3) h4, h5, fun i hi => ?_⟩
  obtain ⟨rb, e1, e2, e3, e4⟩ := h6 i hi
  exact ⟨rb, e1, e2, by omega, cell_same (hk rb e2 e3) e4⟩
theorem RowsAt.step {wr w5 w5' w6 : World} {v v' : Value} {k lo g H : Nat} {L : Nat → Nat × (Nat → Int)} {vs : List Value} {rA : Option Addr} {rc : Nat} (h : RowsAt wr lo v k L vs) (hl : vs.length = k) (hlo : lo ≤ wr.heap.size) (hv : ∀ b, v.ownBlock = some b → b < wr.heap.size)
    (hb : Below wr.heap.size wr w5) (ho : OwnInt w5 wr.heap.size rA (L k).1 (L k).2) (hrc : (L k).1 ≤ rc) (ha : ∀ b, b < w5.heap.size → w5'.heap[b]? = w5.heap[b]?) (hs : w5.heap.size ≤ w5'.heap.size) (hg : w5'.grownBy w6 v.ownBlock) (hv' : v'.ownBlock = some g) (hgg : v.ownBlock = some g ∨ g = H) (hH : w5.heap.size ≤ H) :
    RowsAt w6 lo v' (k + 1) L (vs ++ [.slice rA (L k).1 rc]) := fun j hj => by
  have hs1 := hb.size
  have hs2 := hg.size
  rcases Nat.lt_or_ge j k with h1 | h1
  · obtain ⟨qA, qc, e1, e2, e3⟩ := h j h1
    refine ⟨qA, qc, by rw [List.getElem?_append_left (by omega)]; exact e1, e2, fun i hi => ?_⟩
    obtain ⟨b, f1, f0, f2, f3, f4⟩ := e3 i hi
    refine ⟨b, f1, f0, by omega, ?_, cell_same ((hg.block b (by omega) (fun e => f3 e.symm)).trans ((ha b (by omega)).trans (hb.block b f2))) f4⟩
    rw [hv']
    intro e
    injection e with e
    rcases hgg with h2 | h2
    · exact f3 (by rw [h2, e])
    · omega
  · obtain rfl : j = k := by omega
    refine ⟨rA, rc, by rw [List.getElem?_append_right (by omega), hl]; simp, hrc, fun i hi => ?_⟩
    obtain ⟨b, f1, f2, f3, _⟩ := ho i hi
    have f4 := World.block_lt_of_cell? w5 _ f3
    dsimp only at f4
    have hne : v.ownBlock ≠ some b := fun e => by have := hv b e; omega
    refine ⟨b, f1, by omega, by omega, ?_, cell_same ((hg.block b (by omega) (fun e => hne e.symm)).trans (ha b f4)) f3⟩
    rw [hv']
    intro e
    injection e with e
    rcases hgg with h2 | h2
    · exact hne (by rw [h2, e])
    · omega

set_option maxRecDepth 100000 in
set_option maxHeartbeats 2000000 in
theorem copyrows_any (A : Option Addr) (m c : Nat) (L : Nat → Nat × (Nat → Int)) (W : World) (hl : PlanRow W W.heap.size A m L) (hm : m ≤ 1000) (hlen : ∀ k, k < m → (L k).1 ≤ 1000) :
    Calls Try.prog 60 #[.slice A m c] W fun e W' => Below W.heap.size W W' ∧ ∃ A' c', e = .returned (.slice A' m c') ∧ PlanOwn W' W.heap.size A' m L ∧ m ≤ c' := by
  have HL := Lib.hid hl
  have HLEN := Lib.hid hlen
  clear hl hlen
  obtain ⟨i0, hi, hz0, hz1, hz2⟩ := info_parts infoRow
  go_enter Try.func60, Try.ntmps60
  go_wp2_with fail
  go_loopw [3, 8] (fun v i wr => ∃ (k : Nat) (vs : List Value), k ≤ m ∧ i = .int .i64 k ∧ Hid (vs.length = k) ∧ Hid (wr.ownsRow W.heap.size 26 1 v k vs) ∧ Hid (RowsAt wr W.heap.size v k L vs) ∧ Hid (Below W.heap.size W wr)) (fun _ i _ => m - (intOf i).toNat)
  case atStart => exact ⟨0, [], Nat.zero_le _, rfl, Lib.hid rfl, Lib.hid (World.ownsRow_nil _ _ _ _), Lib.hid (fun j hj => absurd hj (by omega)), Lib.hid (Below.refl _ _)⟩
  case round =>
    obtain ⟨k, vs, hk, rfl, hvs, hown, hrs, hbw⟩ := hrel
    have hsw := hbw.out.size
    by_cases hlt : k < m
    · obtain ⟨b, o, rA, rc, rfl, hbl, c0, hrc, hri⟩ := (HL.out.later hbw.out) k hlt
      have hk0 : (0 : Int) ≤ (k : Int) := by omega
      have hkn : (k : Int) < (m : Int) := by omega
      have hll := HLEN.out k hlt
      have HRI := Lib.hid hri
      have hv1 := hown.out.lt
      clear hri
      go_wp2_with fail
      refine (copy_int rA (L k).1 rc (L k).2 _ HRI.out hll).mono ?_
      rintro e w5 ⟨hb, qA, qc, rfl, hro, hqc⟩
      have HB5 := Lib.hid hb
      have HRO := Lib.hid hro
      have hs5 := hb.size
      clear hb hro c0
      go_wp2_with (at_builtin; refine wpList_append_lies _ rfl (.tmp 12) (.tmp 15) 84 rfl W.heap.size 26 i0 (.slice none 0 0) 1 24 rows_under hi hz0 hz1 hz2 rfl (by decide) u3 k vs rfl ((owns_later hown.out HB5.out).alloc _) ⟨w5.heap.size, 0, none⟩ 1 1 [.slice qA (L k).1 qc] rfl rfl (new_cells (cs := [.slice qA (L k).1 qc])) (by intro u hu; simp only [List.mem_cons, List.not_mem_nil, or_false] at hu; subst hu; rfl) (by omega) (by unfold maxLen; omega) (by omega) (by simp; omega) (w5.heap.size + 1) (by simp) ?_; intro g cap w6 hown6 hgr6 hat6 hlt6)
      have HR6 : Hid (RowsAt w6 W.heap.size (.slice (some ⟨g, 0, none⟩) (k + 1) cap) (k + 1) L (vs ++ [.slice qA (L k).1 qc])) := Lib.hid (hrs.out.step (g := g) (H := w5.heap.size + 1) hvs.out hsw (fun b hb => (hv1 b hb).2) HB5.out HRO.out hqc (fun b hb => Below.heap_alloc _ _ _ hb) (by simp) hgr6 rfl hat6 (by omega))
      have HO6 : Hid (w6.ownsRow W.heap.size 26 1 (.slice (some ⟨g, 0, none⟩) (k + 1) cap) (k + 1) (vs ++ [.slice qA (L k).1 qc])) := Lib.hid hown6
      have HB6 : Hid (Below W.heap.size W w6) := Lib.hid (Below.grown ((hbw.out.trans (HB5.out.mono hsw)).trans (show Below W.heap.size w5 _ from (by repeat (first | (with_reducible exact Below.refl _ _) | (with_reducible assumption) | (with_reducible refine Below.drew ?_) | ((with_reducible refine below_alloc ?_ ?_ _); (· (first | exact Nat.le_refl _ | omega | (dsimp only; omega) | (simp only [World.size_alloc, World.size_drew, World.heap_drewN]; omega) | (simp; omega)))) | ((with_reducible refine below_set ?_ ?_ _); (· (first | exact Nat.le_refl _ | omega | (dsimp only; omega) | (simp only [World.size_alloc, World.size_drew, World.heap_drewN]; omega) | (simp; omega)))) | ((with_reducible refine below_via (by with_reducible assumption) ?_ ?_); (· (first | exact Nat.le_refl _ | omega | (dsimp only; omega) | (simp only [World.size_alloc, World.size_drew, World.heap_drewN]; omega) | (simp; omega)))))))) hgr6 (by simp; omega) (fun k hk => (hv1 k hk).1))
      clear hown6 hgr6 hat6 hlt6
      go_wp2_with fail
      go_roundw
      case rel => exact ⟨k + 1, _, by omega, by go_num, Lib.hid (by rw [List.length_append, hvs.out]; rfl), HO6, HR6, HB6⟩
      case measure => simp [intOf]; omega
    · obtain rfl : k = m := by omega
      have hge : ¬ (k : Int) < (k : Int) := by omega
      have hres : Hid (∃ A c, u3 = .slice A k c ∧ PlanOwn wr W.heap.size A k L ∧ k ≤ c) := Lib.hid (by
        rcases hown.out.2 with ⟨h1, h2⟩ | ⟨g, cap, cur, h1, hb, hg, hc, _⟩
        · exact ⟨none, 0, by rw [h1, h2], fun j hj => by omega, by omega⟩
        · refine ⟨some ⟨g, 0, none⟩, cap, h1, fun j hj => ?_, hc⟩
          obtain ⟨rA, rc, e1, e2, e3⟩ := hrs.out j hj
          refine ⟨g, rA, rc, rfl, hb, (Array.getElem?_eq_some_iff.1 hg).1, ?_, e2, fun i hi => ?_⟩
          · rw [show (⟨g, j, none⟩ : Addr) = (⟨g, 0, none⟩ : Addr).add j by by_cases hj : j = 0 <;> simp [Addr.add, hj]]
            exact hown.out.cells (g := g) (by rw [h1]; rfl) j _ e1
          · obtain ⟨b, f1, f0, f2, _, f4⟩ := e3 i hi
            exact ⟨b, f1, f0, f2, f4⟩)
      obtain ⟨A', c', hu, hro, hlc⟩ := hres.out
      have HRO := Lib.hid hro
      subst hu
      clear hro
      go_wp2_with fail
      go_ret
      exact ⟨hbw.out, A', c', rfl, HRO.out, hlc⟩

set_option maxRecDepth 100000 in
set_option maxHeartbeats 1000000 in
/-- AlikeRows of one list in two places -/
theorem alikerows_any (A C : Option Addr) (m ca cc : Nat) (L : Nat → Nat × (Nat → Int)) (W : World) (hA : PlanRow W W.heap.size A m L) (hC : PlanRow W W.heap.size C m L) (hm : m ≤ 1000) (hlen : ∀ k, k < m → (L k).1 ≤ 1000) :
    Calls Try.prog 67 #[.slice A m ca, .slice C m cc] W fun e W' => e = .returned (.bool true) ∧ Below W.heap.size W W' := by
  have HA := Lib.hid hA
  have HC := Lib.hid hC
  have HLEN := Lib.hid hlen
  have hmm : ((m : Int) != (m : Int)) = false := by simp
  clear hA hC hlen
  go_enter Try.func67, Try.ntmps67
  go_wp2_with fail
  go_loopw [14] (fun i wr => ∃ k : Nat, k ≤ m ∧ i = .int .i64 k ∧ Hid (Below W.heap.size W wr)) (fun i _ => m - (intOf i).toNat)
  case atStart => exact ⟨0, Nat.zero_le _, rfl, Lib.hid (Below.refl _ _)⟩
  case round =>
    obtain ⟨k, hk, rfl, hbw⟩ := hrel
    have hsw := hbw.out.size
    by_cases hlt : k < m
    · obtain ⟨b, o, rA, rc, rfl, hbl, c0, hrc, hri⟩ := (HA.out.later hbw.out) k hlt
      obtain ⟨b2, o2, rA2, rc2, rfl, hbl2, c02, hrc2, hri2⟩ := (HC.out.later hbw.out) k hlt
      have hk0 : (0 : Int) ≤ (k : Int) := by omega
      have hkn : (k : Int) < (m : Int) := by omega
      have hll := HLEN.out k hlt
      have HRI := Lib.hid hri
      have HRI2 := Lib.hid hri2
      clear hri hri2
      go_wp2_with fail
      refine (alike_int rA rA2 (L k).1 (L k).1 rc rc2 (L k).2 (L k).2 _ HRI.out HRI2.out hll).mono ?_
      rintro e w5 ⟨rfl, hb⟩
      rw [alln_int, decide_eq_true rfl]
      have HB5 := Lib.hid (hbw.out.trans (hb.mono hsw))
      clear hb c0 c02
      go_wp2_with fail
      go_roundw
      case rel => exact ⟨k + 1, by omega, by go_num, HB5⟩
      case measure => simp [intOf]; omega
    · obtain rfl : k = m := by omega
      have hge : ¬ (k : Int) < (k : Int) := by omega
      go_wp2_with fail
      go_ret
      exact ⟨rfl, hbw.out⟩

def wideB (m : Nat) (L : Nat → Nat × (Nat → Int)) : Bool := !(allN (fun k => decide ((L k).1 ≤ 6)) m) || decide (5 < m)
set_option maxRecDepth 100000 in
set_option maxHeartbeats 1000000 in
theorem wide_any (A : Option Addr) (m c : Nat) (L : Nat → Nat × (Nat → Int)) (W : World) (hA : PlanRow W W.heap.size A m L) (hmx : m ≤ 9223372036854775807) :
    Calls Try.prog 59 #[.slice A m c] W fun e W' => e = .returned (.bool (wideB m L)) ∧ Below W.heap.size W W' := by
  have HA := Lib.hid hA
  clear hA
  go_enter Try.func59, Try.ntmps59
  go_wp2_with fail
  go_loopw [7] (fun i wr => ∃ k : Nat, k ≤ m ∧ i = .int .i64 k ∧ Hid (∀ j, j < k → (L j).1 ≤ 6) ∧ wr = W) (fun i _ => m - (intOf i).toNat)
  case atStart => exact ⟨0, Nat.zero_le _, rfl, Lib.hid (fun j hj => absurd hj (by omega)), rfl⟩
  case round =>
    obtain ⟨k, hk, rfl, hall, rfl⟩ := hrel
    by_cases hlt : k < m
    · obtain ⟨b, o, rA, rc, rfl, hbl, c0, hrc, hri⟩ := HA.out k hlt
      have hk0 : (0 : Int) ≤ (k : Int) := by omega
      have hkn : (k : Int) < (m : Int) := by omega
      clear hri
      by_cases h6 : 6 < (L k).1
      · have h6' : (6 : Int) < (((L k).1 : Nat) : Int) := by omega
        have HV : Hid (wideB m L = true) := Lib.hid (by
          have : allN (fun k => decide ((L k).1 ≤ 6)) m = false := allN_false (k := k) hlt (by simp; omega)
          unfold wideB; rw [this]; rfl)
        clear h6
        go_wp2_with fail
        go_ret
        exact ⟨by rw [HV.out]; rfl, Below.refl _ _⟩
      · have h6' : ¬ (6 : Int) < (((L k).1 : Nat) : Int) := by omega
        have H6 := Lib.hid h6
        clear h6
        go_wp2_with fail
        go_roundw
        case rel => exact ⟨k + 1, by omega, by go_num, Lib.hid (fun j hj => by rcases Nat.lt_or_ge j k with h | h; exact hall.out j h; rw [show j = k from by omega]; have := H6.out; omega), trivial⟩
        case measure => simp [intOf]; omega
    · obtain rfl : k = m := by omega
      have hge : ¬ (k : Int) < (k : Int) := by omega
      have HV : Hid (wideB k L = decide ((5 : Int) < (k : Int))) := Lib.hid (by
        have : allN (fun j => decide ((L j).1 ≤ 6)) k = true := allN_iff.2 (fun j hj => by simpa using hall.out j hj)
        unfold wideB; rw [this, Bool.not_true, Bool.false_or]
        rw [Bool.eq_iff_iff]; simp; omega)
      go_wp2_with fail
      go_ret
      exact ⟨by rw [HV.out]; rfl, Below.refl _ _⟩
end Go.Proofs.Ytegmomappbehcaa

set_option linter.unusedSimpArgs false
set_option linter.unusedVariables false
namespace Go.Proofs.Ytegmomappbehcaa

theorem sumN_cons (f : Nat → Int) : ∀ n, sumN f (n + 1) = f 0 + sumN (fun k => f (k + 1)) n
  | 0 => by simp [sumN]
  | n + 1 => by
    show sumN f (n + 1) + f (n + 1) = f 0 + (sumN (fun k => f (k + 1)) n + f (n + 1))
    rw [sumN_cons f n]
    omega
theorem St.choOf_form (st : St) (k : Nat) (left : Bag) (l : List Bag) : (st.choOf k left l = (bagZ, 0)) ∨ ∃ b, b ∈ l ∧ st.brings b ≠ 0 ∧ st.choOf k left l = (b, st.brings b + (st.choose k (left.less b)).2) := by
  have key : ∀ (l : List Bag) (acc : Bag × Int), (l.foldl (st.chStep (fun x => (st.choose k x).2) left) acc = acc) ∨ ∃ b, b ∈ l ∧ st.brings b ≠ 0 ∧ l.foldl (st.chStep (fun x => (st.choose k x).2) left) acc = (b, st.brings b + (st.choose k (left.less b)).2) := by
    intro l
    induction l with
    | nil => intro acc; exact .inl rfl
    | cons a l ih =>
      intro acc
      rw [List.foldl_cons]
      have ha : st.chStep (fun x => (st.choose k x).2) left acc a = acc ∨ st.brings a ≠ 0 ∧ st.chStep (fun x => (st.choose k x).2) left acc a = (a, st.brings a + (st.choose k (left.less a)).2) := by
        unfold St.chStep
        by_cases hb : st.brings a = 0
        · rw [if_pos hb]; exact .inl rfl
        · rw [if_neg hb]
          split
          · exact .inr ⟨hb, rfl⟩
          · exact .inl rfl
      rcases ih (st.chStep (fun x => (st.choose k x).2) left acc a) with h | ⟨b, h1, h2, h3⟩
      · rw [h]
        rcases ha with ha | ⟨h1, h2⟩
        · exact .inl ha
        · exact .inr ⟨a, by simp, h1, h2⟩
      · exact .inr ⟨b, by simp [h1], h2, h3⟩
  exact key l _
theorem Bag.less_atp (x y : Bag) : ∀ p, (x.less y).at p = x.at p - y.at p
  | 0 => rfl
  | 1 => rfl
  | 2 => rfl
  | 3 => rfl
  | n + 4 => rfl
theorem St.planN_all {st : St} (hst : st.ok) : ∀ (k : Nat) (left : Bag), left.in_ st.all →
    (∀ x, x ∈ st.planN k left → x.in_ left ∧ st.brings x ≠ 0) ∧ (∀ p, sumN (fun j => ((st.planN k left).getD j bagZ).at p) (st.planN k left).length ≤ left.at p) ∧ sumN (fun j => st.brings ((st.planN k left).getD j bagZ)) (st.planN k left).length = (st.choose k left).2
  | 0, left, hl => ⟨fun x hx => by simp [St.planN] at hx, fun p => Int.le_trans (Int.le_refl 0) (Bag.in_at hl p).1, rfl⟩
  | k + 1, left, hl => by
    have hbd := St.choose_bd hst (k + 1) left hl
    rw [St.planN_succ]
    by_cases h0 : 0 < (st.choose (k + 1) left).2
    · rw [if_pos (by simpa using h0)]
      rcases st.choOf_form k left (bagsOf left) with h | ⟨b, h1, h2, h3⟩
      · rw [St.choose_succ, h] at h0
        exact absurd h0 (by decide)
      · have hb := mem_bagsOf.1 h1
        have hli : (left.less b).in_ st.all := Bag.in_trans (Bag.less_in hb) hl
        have e1 : (st.choose (k + 1) left).1 = b := by rw [St.choose_succ, h3]
        have e2 : (st.choose (k + 1) left).2 = st.brings b + (st.choose k (left.less b)).2 := by rw [St.choose_succ, h3]
        rw [e1, e2]
        obtain ⟨i1, i2, i3⟩ := St.planN_all hst k (left.less b) hli
        refine ⟨fun x hx => ?_, fun p => ?_, ?_⟩
        · rcases List.mem_cons.1 hx with rfl | hx
          · exact ⟨hb, h2⟩
          · exact ⟨Bag.in_trans (i1 x hx).1 (Bag.less_in hb), (i1 x hx).2⟩
        · rw [List.length_cons, sumN_cons]
          have h4 := i2 p
          rw [Bag.less_atp] at h4
          show b.at p + sumN (fun j => ((st.planN k (left.less b)).getD j bagZ).at p) (st.planN k (left.less b)).length ≤ left.at p
          omega
        · rw [List.length_cons, sumN_cons]
          show st.brings b + sumN (fun j => st.brings ((st.planN k (left.less b)).getD j bagZ)) _ = _
          rw [i3]
    · rw [if_neg (by simpa using h0)]
      refine ⟨fun x hx => by simp at hx, fun p => ?_, ?_⟩
      · exact (Bag.in_at hl p).1
      · show (0 : Int) = (st.choose (k + 1) left).2
        omega
/-- the rows of a plan that is told -/
def St.planL (st : St) (j : Nat) : Nat × (Nat → Int) := (st.n, ((st.planN st.lots.toNat st.all).getD j bagZ).at)
theorem St.lot_in {st : St} {x : Bag} (h4 : st.n ≤ 4) (h : x.in_ st.all) : st.lotErr st.n x.at = 0 := by
  unfold St.lotErr
  rw [if_neg (by simp), if_neg]
  rw [allN_iff.2 (fun k hk => by
    have h1 := St.in_all h k hk (by omega)
    simp [inB]; omega)]
  decide
theorem St.ask_in {st : St} {x : Bag} (hst : st.ok) (h : x.in_ st.all) : st.askErr st.n x.at = 0 := by
  unfold St.askErr
  rw [if_neg (by simp [St.check_ok.2 hst])]
  exact St.lot_in hst.n4 h
theorem St.plan_get {st : St} (hst : st.ok) {j : Nat} (hj : j < (st.planN st.lots.toNat st.all).length) : ((st.planN st.lots.toNat st.all).getD j bagZ).in_ st.all ∧ st.brings ((st.planN st.lots.toNat st.all).getD j bagZ) ≠ 0 := by
  have ha : st.all.in_ st.all := ⟨⟨(St.all_bd hst 0).1, Int.le_refl _⟩, ⟨(St.all_bd hst 1).1, Int.le_refl _⟩, ⟨(St.all_bd hst 2).1, Int.le_refl _⟩, (St.all_bd hst 3).1, Int.le_refl _⟩
  refine (St.planN_all hst st.lots.toNat st.all ha).1 _ ?_
  rw [List.getD_eq_getElem?_getD, List.getElem?_eq_getElem hj]
  exact List.getElem_mem _
/-- the plan that is told is one, and brings what is said -/
theorem St.plan_earns {st : St} (hst : st.ok) : st.earnsR (st.planN st.lots.toNat st.all).length st.planL = ((st.choose st.lots.toNat st.all).2, 0) := by
  have ha : st.all.in_ st.all := ⟨⟨(St.all_bd hst 0).1, Int.le_refl _⟩, ⟨(St.all_bd hst 1).1, Int.le_refl _⟩, ⟨(St.all_bd hst 2).1, Int.le_refl _⟩, (St.all_bd hst 3).1, Int.le_refl _⟩
  obtain ⟨h1, h2, h3⟩ := St.planN_all hst st.lots.toNat st.all ha
  have hl := St.planN_len st st.lots.toNat st.all
  have l0 := hst.l0
  have e : st.earnsErr (st.planN st.lots.toNat st.all).length st.planL = 0 := by
    unfold St.earnsErr
    rw [if_neg (by simp [St.check_ok.2 hst]), if_neg (by omega)]
    have hf : firstErr (fun j => st.lotErr (st.planL j).1 (st.planL j).2) (st.planN st.lots.toNat st.all).length = 0 := firstErr_zero (fun j hj => St.lot_in hst.n4 (St.plan_get hst hj).1)
    rw [hf, if_neg (by simp), if_neg]
    rw [allN_iff.2 (fun p hp => by
      have h4 := h2 p
      rw [st.all_at p (by have := hst.n4; omega), if_pos hp] at h4
      simpa [planSum, St.planL] using h4)]
    decide
  unfold St.earnsR
  rw [e, if_neg (by simp), ← h3]
  congr 1
  exact sumN_congr (fun j hj => by
    show st.brings (bagOf ((st.planN st.lots.toNat st.all).getD j bagZ).at st.n) = _
    rw [bagOf_at_in hst.n4 (St.plan_get hst hj).1])
theorem St.brings_in {st : St} (hst : st.ok) {x : Bag} (h : x.in_ st.all) : st.bringsR st.n x.at = (st.brings x, 0) := by
  unfold St.bringsR
  rw [if_neg (by simp [St.ask_in hst h]), bagOf_at_in hst.n4 h]
/-- rows of bags are rows of a plan -/
theorem RowsOf.plan {w : World} {A : Option Addr} {n : Nat} {l : List Bag} (h : RowsOf w w.heap.size A n l) (L : Nat → Nat × (Nat → Int)) (hL : ∀ j x, l[j]? = some x → L j = (n, x.at)) : PlanRow w w.heap.size A l.length L := fun k hk => by
  obtain ⟨b, o, rb, h1, h2, h3, h4, h5⟩ := h k l[k] (List.getElem?_eq_getElem hk)
  have e := hL k l[k] (List.getElem?_eq_getElem hk)
  refine ⟨b, o, some ⟨rb, 0, none⟩, n, h1, h2, by rw [e]; exact h3, by rw [e]; exact Nat.le_refl _, ?_⟩
  rw [e]
  exact fun i hi => ⟨rb, 0, rfl, h4, by rw [Nat.zero_add]; exact h5 i hi⟩
end Go.Proofs.Ytegmomappbehcaa

set_option linter.unusedSimpArgs false
set_option linter.unusedVariables false
namespace Go.Proofs.Ytegmomappbehcaa

theorem St.choOf_ge (st : St) (k : Nat) (left : Bag) : ∀ (l : List Bag) (acc : Bag × Int), acc.2 ≤ (l.foldl (st.chStep (fun x => (st.choose k x).2) left) acc).2 ∧ ∀ b, b ∈ l → st.brings b ≠ 0 → st.brings b + (st.choose k (left.less b)).2 ≤ (l.foldl (st.chStep (fun x => (st.choose k x).2) left) acc).2
  | [], acc => ⟨Int.le_refl _, fun b hb => by cases hb⟩
  | a :: l, acc => by
    simp only [List.foldl_cons]
    obtain ⟨h1, h2⟩ := St.choOf_ge st k left l (st.chStep (fun x => (st.choose k x).2) left acc a)
    have hs : acc.2 ≤ (st.chStep (fun x => (st.choose k x).2) left acc a).2 ∧ (st.brings a ≠ 0 → st.brings a + (st.choose k (left.less a)).2 ≤ (st.chStep (fun x => (st.choose k x).2) left acc a).2) := by
      unfold St.chStep
      by_cases hb : st.brings a = 0
      · rw [if_pos hb]
        exact ⟨Int.le_refl _, fun h => absurd hb h⟩
      · rw [if_neg hb]
        by_cases hlt : acc.2 < st.brings a + (st.choose k (left.less a)).2
        · rw [if_pos (by simpa using hlt)]
          exact ⟨by dsimp only; omega, fun _ => Int.le_refl _⟩
        · rw [if_neg (by simpa using hlt)]
          exact ⟨Int.le_refl _, fun _ => by omega⟩
    refine ⟨by omega, fun b hb hn => ?_⟩
    rcases List.mem_cons.1 hb with rfl | hb
    · have := hs.2 hn
      omega
    · exact h2 b hb hn
theorem St.choose_ge (st : St) (k : Nat) {left b : Bag} (hb : b.in_ left) (hn : st.brings b ≠ 0) : st.brings b + (st.choose k (left.less b)).2 ≤ (st.choose (k + 1) left).2 :=
  (St.choOf_ge st k left (bagsOf left) (bagZ, 0)).2 b (mem_bagsOf.2 hb) hn
theorem Bag.in_of_at {x y : Bag} (h : ∀ p, p < 4 → 0 ≤ x.at p ∧ x.at p ≤ y.at p) : x.in_ y :=
  ⟨h 0 (by omega), h 1 (by omega), h 2 (by omega), h 3 (by omega)⟩
theorem sumN_nn {f : Nat → Int} {n : Nat} (h : ∀ k, k < n → 0 ≤ f k) : 0 ≤ sumN f n := by
  have := sumN_le (f := fun _ => 0) (g := f) (n := n) h
  rw [sumN_zero (fun k _ => rfl)] at this
  exact this
/-- no plan brings more than the one that is told -/
theorem St.plan_le {st : St} (hst : st.ok) : ∀ (m k : Nat) (B : Nat → Bag) (left : Bag), left.in_ st.all → m ≤ k → (∀ j, j < m → ∀ p, p < 4 → 0 ≤ (B j).at p) → (∀ p, p < 4 → sumN (fun j => (B j).at p) m ≤ left.at p) → sumN (fun j => st.brings (B j)) m ≤ (st.choose k left).2
  | 0, k, B, left, hl, _, _, _ => (St.choose_bd hst k left hl).1
  | m + 1, k, B, left, hl, hk, hB, hs => by
    obtain ⟨k, rfl⟩ : ∃ q, k = q + 1 := ⟨k - 1, by omega⟩
    have h0 : ∀ p, p < 4 → (B 0).at p + sumN (fun j => (B (j + 1)).at p) m ≤ left.at p := fun p hp => by have := hs p hp; rw [sumN_cons] at this; exact this
    have hnn : ∀ p, p < 4 → 0 ≤ sumN (fun j => (B (j + 1)).at p) m := fun p hp => sumN_nn (fun j hj => hB (j + 1) (by omega) p hp)
    rw [sumN_cons]
    by_cases hb : st.brings (B 0) = 0
    · rw [hb, Int.zero_add]
      exact St.plan_le hst m (k + 1) (fun j => B (j + 1)) left hl (by omega) (fun j hj => hB (j + 1) (by omega)) (fun p hp => by have := h0 p hp; have := hB 0 (by omega) p hp; show sumN (fun j => (B (j + 1)).at p) m ≤ left.at p; omega)
    · have hin : (B 0).in_ left := Bag.in_of_at (fun p hp => by have := h0 p hp; have := hnn p hp; have := hB 0 (by omega) p hp; omega)
      have h1 := St.choose_ge st k hin hb
      have h2 := St.plan_le hst m k (fun j => B (j + 1)) (left.less (B 0)) (Bag.in_trans (Bag.less_in hin) hl) (by omega) (fun j hj => hB (j + 1) (by omega)) (fun p hp => by rw [Bag.less_atp]; have := h0 p hp; show sumN (fun j => (B (j + 1)).at p) m ≤ left.at p - (B 0).at p; omega)
      show st.brings (B 0) + sumN (fun j => st.brings (B (j + 1))) m ≤ _
      omega
theorem St.all_self {st : St} (hst : st.ok) : st.all.in_ st.all := ⟨⟨(St.all_bd hst 0).1, Int.le_refl _⟩, ⟨(St.all_bd hst 1).1, Int.le_refl _⟩, ⟨(St.all_bd hst 2).1, Int.le_refl _⟩, (St.all_bd hst 3).1, Int.le_refl _⟩
theorem costN_less (X : Nat → Int) (x y : Bag) (n : Nat) : costN X (x.less y) n = costN X x n - costN X y n := by
  unfold costN
  induction n with
  | zero => rfl
  | succ n ih =>
    simp only [sumN]
    rw [ih, Bag.less_atp, Int.mul_sub]
    omega
theorem costN_nn {X : Nat → Int} {x : Bag} {n : Nat} (hX : ∀ k, k < n → 0 ≤ X k) (hx : ∀ k, 0 ≤ x.at k) : 0 ≤ costN X x n := sumN_nn (fun k hk => Int.mul_nonneg (hX k hk) (hx k))
/-- prices that bound each lot bound all plans -/
theorem St.choose_cost {st : St} (hst : st.ok) {X : Nat → Int} {n : Nat} (hX : ∀ k, k < n → 0 ≤ X k) (hc : ∀ b, b.in_ st.all → st.brings b ≤ costN X b n) : ∀ (k : Nat) (left : Bag), left.in_ st.all → (st.choose k left).2 ≤ costN X left n
  | 0, left, hl => costN_nn hX (fun p => (Bag.in_at hl p).1)
  | k + 1, left, hl => by
    rw [St.choose_succ]
    rcases St.choOf_form st k left (bagsOf left) with h | ⟨b, h1, h2, h3⟩
    · rw [h]
      exact costN_nn hX (fun p => (Bag.in_at hl p).1)
    · rw [h3]
      have hb := mem_bagsOf.1 h1
      have h4 := hc b (Bag.in_trans hb hl)
      have h5 := St.choose_cost hst hX hc k (left.less b) (Bag.in_trans (Bag.less_in hb) hl)
      rw [costN_less] at h5
      dsimp only
      omega
theorem gprice_le {st : St} (hst : st.ok) {i : Nat} : ∀ d, i + d < st.m → (st.G (i + d)).price ≤ (st.G i).price
  | 0, _ => Int.le_refl _
  | d + 1, h => by
    have h1 := gprice_le hst (i := i) d (by omega)
    have h2 := (hst.up (i + d) (by omega)).2
    show (st.G (i + d + 1)).price ≤ _
    omega
theorem price_le {st : St} (hst : st.ok) (hm : 0 < st.m) (x : Bag) : st.price x ≤ (st.G 0).price := by
  unfold St.price
  split
  · have := gprice_le hst (i := 0) (st.first x) (by omega)
    rw [Nat.zero_add] at this
    exact this
  · have := (hst.gd 0 hm).2
    omega
theorem cost_const (c : Int) (x : Bag) (n : Nat) : costN (fun _ => c) x n = c * sumN x.at n := by
  unfold costN
  induction n with
  | zero => simp [sumN]
  | succ n ih => simp only [sumN]; rw [ih, Int.mul_add]
theorem bag_atsum {st : St} (h4 : st.n ≤ 4) {x : Bag} (h : x.in_ st.all) : sumN x.at st.n = x.size := by
  have := bag_sum (st := st) (X := x.at) h4
  rw [bagOf_at_in h4 h] at this
  exact this
/-- the price of the best grade for each sack bounds all plans -/
theorem bound_best {st : St} (hst : st.ok) (hm : 0 < st.m) {b : Bag} (hb : b.in_ st.all) : st.brings b ≤ costN (fun _ => (st.G 0).price) b st.n := by
  rw [cost_const, bag_atsum hst.n4 hb]
  unfold St.brings
  have h1 := (St.size_bd hst hb).1
  have h2 := Int.mul_le_mul_of_nonneg_left (price_le hst hm b) h1
  rw [Int.mul_comm (st.G 0).price]
  exact h2
theorem costN_congr {X Y : Nat → Int} {x : Bag} {n : Nat} (h : ∀ k, k < n → X k = Y k) : costN X x n = costN Y x n := sumN_congr (fun k hk => by rw [h k hk])
theorem bound_err {st : St} (hst : st.ok) {X : Nat → Int} (hX : ∀ k, k < st.n → 0 ≤ X k ∧ X k ≤ 100) : st.boundErr st.n X = if st.fits X st.n (bagsOf st.all) = false then 8 else 0 := by
  unfold St.boundErr
  rw [if_neg (by simp [St.check_ok.2 hst]), if_neg (by simp), if_neg]
  rw [allN_iff.2 (fun k hk => by
    have h1 := hX k hk
    simp [inB]; omega)]
  decide
/-- what the law asks of a bound -/
theorem bound_fits {st : St} (hst : st.ok) {X : Nat → Int} (hX : ∀ k, k < st.n → 0 ≤ X k ∧ X k ≤ 100) : (st.boundR st.n X = (0, 8)) ∨ ((st.boundR st.n X).2 = 0 ∧ (st.choose st.lots.toNat st.all).2 ≤ (st.boundR st.n X).1) := by
  have he := bound_err hst hX
  unfold St.boundR
  rw [he]
  by_cases hf : st.fits X st.n (bagsOf st.all) = false
  · rw [if_pos hf]
    exact .inl rfl
  · rw [if_neg hf]
    refine .inr ⟨rfl, ?_⟩
    have hc : ∀ b, b.in_ st.all → st.brings b ≤ costN X b st.n := fun b hb => by
      have h1 : st.fits X st.n (bagsOf st.all) = true := by simpa using hf
      unfold St.fits at h1
      rw [List.all_eq_true] at h1
      simpa using h1 b (mem_bagsOf.2 hb)
    exact St.choose_cost hst (fun k hk => (hX k hk).1) hc _ _ (St.all_self hst)
theorem bound_ok {st : St} (hst : st.ok) (hm : 0 < st.m) {X : Nat → Int} (hX : ∀ k, k < st.n → X k = (st.G 0).price) : (st.boundR st.n X).2 = 0 ∧ (st.choose st.lots.toNat st.all).2 ≤ (st.boundR st.n X).1 := by
  have hp := (hst.gd 0 hm).2
  have hX1 : ∀ k, k < st.n → 0 ≤ X k ∧ X k ≤ 100 := fun k hk => by rw [hX k hk]; omega
  rcases bound_fits hst hX1 with h | h
  · exfalso
    have he := bound_err hst hX1
    have hf : st.fits X st.n (bagsOf st.all) = true := by
      unfold St.fits
      rw [List.all_eq_true]
      intro b hb
      have := bound_best hst hm (mem_bagsOf.1 hb)
      rw [costN_congr (Y := fun _ => (st.G 0).price) hX]
      simpa using this
    rw [hf] at he
    unfold St.boundR at h
    rw [he] at h
    simp at h
  · exact h
theorem bagOf_off {X : Nat → Int} {n p : Nat} (h : ¬ p < n) : (bagOf X n).at p = 0 := by
  match p with
  | 0 => simp [bagOf, bagK, Bag.at, h]
  | 1 => simp [bagOf, bagK, Bag.at, h]
  | 2 => simp [bagOf, bagK, Bag.at, h]
  | 3 => simp [bagOf, bagK, Bag.at, h]
  | p + 4 => rfl
theorem tried_in {st : St} (hst : st.ok) {X : Nat → Int} (h1 : ∀ i, i < st.n → 0 ≤ X i) (h2 : ∀ i, i < st.n → X i ≤ (st.P i).s) : (bagOf X st.n).in_ st.all := bagOf_in (St.askErr_ok (lot_ask hst (fun k hk => ⟨h1 k hk, h2 k hk⟩))).2.1
/-- what is left in each picking of a plan that is tried -/
def leftP (S : Nat → Int) (Y : Nat → Nat → Int) (j : Nat) (i : Nat) : Int := S i - sumN (fun t => Y t i) j
/-- a plan whose lots were taken one by one brings no more than is told -/
theorem tried_ok {st : St} (hst : st.ok) {m : Nat} {Y : Nat → Nat → Int} (hm : (m : Int) ≤ st.lots) (hY : ∀ j, j < m → ∀ i, i < st.n → 0 ≤ Y j i) (hs : ∀ i, i < st.n → sumN (fun j => Y j i) m ≤ (st.P i).s) :
    ∃ v, st.earnsR m (fun j => (st.n, Y j)) = (v, 0) ∧ v ≤ (st.choose st.lots.toNat st.all).2 ∧ 0 ≤ v ∧ v ≤ 10000 := by
  have h4 := hst.n4
  have hle : ∀ j, j < m → ∀ i, i < st.n → Y j i ≤ (st.P i).s := fun j hj i hi => by
    have key : ∀ m, j < m → (∀ t, t < m → 0 ≤ Y t i) → Y j i ≤ sumN (fun t => Y t i) m := by
      intro m
      induction m with
      | zero => intro h; omega
      | succ m ih =>
        intro h hn
        simp only [sumN]
        by_cases e : j = m
        · subst e
          have := sumN_nn (f := fun t => Y t i) (n := j) (fun t ht => hn t (by omega))
          omega
        · have := ih (by omega) (fun t ht => hn t (by omega))
          have := hn m (by omega)
          omega
    have := key m hj (fun t ht => hY t ht i hi)
    have := hs i hi
    omega
  have he : st.earnsErr m (fun j => (st.n, Y j)) = 0 := by
    unfold St.earnsErr
    rw [if_neg (by simp [St.check_ok.2 hst]), if_neg (by omega)]
    have hf : firstErr (fun j => st.lotErr st.n (Y j)) m = 0 := firstErr_zero (fun j hj => by
      unfold St.lotErr
      rw [if_neg (by simp), if_neg]
      rw [allN_iff.2 (fun k hk => by
        have h1 := hY j hj k hk
        have h2 := hle j hj k hk
        simp [inB]; omega)]
      decide)
    dsimp only
    rw [hf, if_neg (by simp), if_neg]
    rw [allN_iff.2 (fun p hp => by
      have := hs p hp
      exact decide_eq_true (p := sumN (fun j => Y j p) m ≤ (st.P p).s) this)]
    decide
  refine ⟨_, by unfold St.earnsR; rw [he]; rfl, ?_, ?_, ?_⟩
  · dsimp only
    refine St.plan_le hst m st.lots.toNat (fun j => bagOf (Y j) st.n) st.all (St.all_self hst) (by omega) (fun j hj p hp => ?_) (fun p hp => ?_)
    · by_cases hpn : p < st.n
      · rw [bagOf_at hpn hp]; exact hY j hj p hpn
      · rw [bagOf_off hpn]; exact Int.le_refl _
    · rw [st.all_at p hp]
      split
      · rename_i hpn
        have := hs p hpn
        rw [sumN_congr (g := fun j => Y j p) (fun j hj => bagOf_at hpn hp)]
        exact this
      · rename_i hpn
        rw [sumN_zero (fun j hj => bagOf_off hpn)]
        exact Int.le_refl _
  · exact sumN_nn (fun j hj => (St.brings_bd hst (tried_in hst (hY j hj) (hle j hj))).1)
  · have h3 := hst.l3
    have := sumN_bd2 (fun j => st.brings (bagOf (Y j) st.n)) m 2400 (fun j hj => St.brings_bd hst (tried_in hst (hY j hj) (hle j hj)))
    dsimp only
    omega
end Go.Proofs.Ytegmomappbehcaa

set_option linter.unusedSimpArgs false
set_option linter.unusedVariables false
namespace Go.Proofs.Ytegmomappbehcaa
open Go.RowKit Go.Shelf

theorem OwnPk.setS {w : World} {lo n b : Nat} {P : Nat → Pk} (h : OwnPk w lo (some ⟨b, 0, none⟩) n P) {i : Nat} (hi : i < n) (v : Int) : OwnPk (w.setCell ⟨b, i * 4, none⟩ (.int .i64 v)) lo (some ⟨b, 0, none⟩) n (fun t => if t = i then { P t with s := v } else P t) := fun k hk => by
  obtain ⟨_, hA, hl, c0, c1, c2, c3, hf⟩ := h k hk
  injection hA with hA
  injection hA with hA
  subst hA
  have oth : ∀ (j : Nat) (u : Value), j ≠ i * 4 → w.cell? ⟨b, j, none⟩ = some u → (w.setCell ⟨b, i * 4, none⟩ (.int .i64 v)).cell? ⟨b, j, none⟩ = some u := fun j u hj hc => by
    rw [World.cell?_setCell_other _ _ _ _ (by intro e; injection e with _ e _; omega)]; exact hc
  by_cases hki : k = i
  · subst hki
    refine ⟨b, rfl, hl, ?_, ?_, ?_, ?_, fun j => fro_set_of _ (hf j)⟩
    · dsimp only
      rw [if_pos rfl]
      exact World.cell?_setCell_same' _ _ _ (by rw [c0]; rfl)
    · dsimp only
      rw [if_pos rfl]
      exact oth _ _ (by omega) c1
    · dsimp only
      rw [if_pos rfl]
      exact oth _ _ (by omega) c2
    · dsimp only
      rw [if_pos rfl]
      exact oth _ _ (by omega) c3
  · refine ⟨b, rfl, hl, ?_, ?_, ?_, ?_, fun j => fro_set_of _ (hf j)⟩ <;> dsimp only <;> rw [if_neg hki] <;> first | exact oth _ _ (by omega) c0 | exact oth _ _ (by omega) c1 | exact oth _ _ (by omega) c2 | exact oth _ _ (by omega) c3
theorem OwnPk.congr {w : World} {lo n : Nat} {A : Option Addr} {P Q : Nat → Pk} (h : OwnPk w lo A n P) (e : ∀ k, k < n → P k = Q k) : OwnPk w lo A n Q := fun k hk => by
  obtain ⟨b, hA, hl, c0, c1, c2, c3, hf⟩ := h k hk
  rw [e k hk] at c0 c1 c2 c3
  exact ⟨b, hA, hl, c0, c1, c2, c3, hf⟩
theorem RowsAt.keep {w w' : World} {lo k : Nat} {v : Value} {L : Nat → Nat × (Nat → Int)} {vs : List Value} (h : RowsAt w lo v k L vs) (hs : w.heap.size ≤ w'.heap.size) (hk : ∀ b, lo ≤ b → b < w.heap.size → w'.heap[b]? = w.heap[b]?) : RowsAt w' lo v k L vs := fun j hj => by
  obtain ⟨rA, rc, e1, e2, e3⟩ := h j hj
  refine ⟨rA, rc, e1, e2, fun i hi => ?_⟩
  obtain ⟨b, f1, f0, f2, f3, f4⟩ := e3 i hi
  exact ⟨b, f1, f0, by omega, f3, cell_same (hk b f0 f2) f4⟩
theorem RowsAt.congr {w : World} {lo k : Nat} {v : Value} {L M : Nat → Nat × (Nat → Int)} {vs : List Value} (h : RowsAt w lo v k L vs) (e : ∀ j, j < k → M j = L j) : RowsAt w lo v k M vs := fun j hj => by
  rw [e j hj]
  exact h j hj
/-- one row more, that lies above what the rows' list had -/
theorem RowsAt.put {w w5 w6 : World} {v v' : Value} {k lo g H M : Nat} {L : Nat → Nat × (Nat → Int)} {vs : List Value} {rA : Option Addr} {rc : Nat} (h : RowsAt w lo v k L vs) (hl : vs.length = k) (hM : lo ≤ M) (hv : ∀ b, v.ownBlock = some b → b < M)
    (ho : OwnInt w M rA (L k).1 (L k).2) (hrc : (L k).1 ≤ rc) (ha : ∀ b, b < w.heap.size → w5.heap[b]? = w.heap[b]?) (hs : w.heap.size ≤ w5.heap.size) (hg : w5.grownBy w6 v.ownBlock) (hv' : v'.ownBlock = some g) (hgg : v.ownBlock = some g ∨ g = H) (hH : w.heap.size ≤ H) :
    RowsAt w6 lo v' (k + 1) L (vs ++ [.slice rA (L k).1 rc]) := fun j hj => by
  have hs2 := hg.size
  rcases Nat.lt_or_ge j k with h1 | h1
  · obtain ⟨qA, qc, e1, e2, e3⟩ := h j h1
    refine ⟨qA, qc, by rw [List.getElem?_append_left (by omega)]; exact e1, e2, fun i hi => ?_⟩
    obtain ⟨b, f1, f0, f2, f3, f4⟩ := e3 i hi
    refine ⟨b, f1, f0, by omega, ?_, cell_same ((hg.block b (by omega) (fun e => f3 e.symm)).trans (ha b f2)) f4⟩
    rw [hv']
    intro e
    injection e with e
    rcases hgg with h2 | h2
    · exact f3 (by rw [h2, e])
    · omega
  · obtain rfl : j = k := by omega
    refine ⟨rA, rc, by rw [List.getElem?_append_right (by omega), hl]; simp, hrc, fun i hi => ?_⟩
    obtain ⟨b, f1, f2, f3, _⟩ := ho i hi
    have f4 := World.block_lt_of_cell? w _ f3
    dsimp only at f4
    have hne : v.ownBlock ≠ some b := fun e => by have := hv b e; omega
    refine ⟨b, f1, by omega, by omega, ?_, cell_same ((hg.block b (by omega) (fun e => hne e.symm)).trans (ha b f4)) f3⟩
    rw [hv']
    intro e
    injection e with e
    rcases hgg with h2 | h2
    · exact hne (by rw [h2, e])
    · omega
/-- the plan's rows, out of what was appended -/
theorem RowsAt.plan {w : World} {lo k : Nat} {v : Value} {L : Nat → Nat × (Nat → Int)} {vs : List Value} {T : TypeId} (h : RowsAt w lo v k L vs) (hown : w.ownsRow lo T 1 v k vs) : ∃ A c, v = .slice A k c ∧ PlanOwn w lo A k L ∧ k ≤ c := by
  rcases hown.2 with ⟨h1, h2⟩ | ⟨g, cap, cur, h1, hb, hg, hc, _⟩
  · exact ⟨none, 0, by rw [h1, h2], fun j hj => by omega, by omega⟩
  · refine ⟨some ⟨g, 0, none⟩, cap, h1, fun j hj => ?_, hc⟩
    obtain ⟨rA, rc, e1, e2, e3⟩ := h j hj
    refine ⟨g, rA, rc, rfl, hb, (Array.getElem?_eq_some_iff.1 hg).1, ?_, e2, fun i hi => ?_⟩
    · rw [show (⟨g, j, none⟩ : Addr) = (⟨g, 0, none⟩ : Addr).add j by by_cases hj : j = 0 <;> simp [Addr.add, hj]]
      exact hown.cells (g := g) (by rw [h1]; rfl) j _ e1
    · obtain ⟨b, f1, f0, f2, _, f4⟩ := e3 i hi
      exact ⟨b, f1, f0, f2, f4⟩
/-- the store of which lots were taken -/
def leftSt (st : St) (Y : Nat → Nat → Int) (j : Nat) : St := { st with P := fun i => { st.P i with s := (st.P i).s - sumN (fun t => Y t i) j } }
def putRow (Y : Nat → Nat → Int) (j : Nat) (X : Nat → Int) : Nat → Nat → Int := fun t => if t = j then X else Y t
theorem put_sum (Y : Nat → Nat → Int) (j : Nat) (X : Nat → Int) (i : Nat) : sumN (fun t => putRow Y j X t i) (j + 1) = sumN (fun t => Y t i) j + X i := by
  show sumN (fun t => putRow Y j X t i) j + putRow Y j X j i = _
  rw [sumN_congr (g := fun t => Y t i) (fun t ht => by unfold putRow; rw [if_neg (by omega)])]
  unfold putRow
  rw [if_pos rfl]
/-- a made store, a later chute, a store of one's own of which lots were taken, and the plan -/
structure EAt (W w : World) (B qb lo l2 : Nat) (st : St) (bx bl : Nat) (pA gA : Option Addr) (pc gc : Nat) (tA : Option Addr) (tn tc : Nat) (pb : Nat) (hA : Option Addr) (lpc hc : Nat) (P : Nat → Pk) (v : Value) (j : Nat) (Y : Nat → Nat → Int) (vs : List Value) : Prop where
  m : MAt W w B qb st bx pA gA pc gc tA tn tc
  s : StAt w bl (some ⟨pb, 0, none⟩) st.n lpc hA st.m hc st.lots
  p : OwnPk w lo (some ⟨pb, 0, none⟩) st.n P
  g : OwnGd w lo hA st.m st.G
  h1 : qb < lo
  h2 : lo ≤ l2
  h3 : lo ≤ pb ∧ pb < l2 ∧ lo ≤ bl ∧ bl < l2 ∧ pb ≠ bl
  h4 : ∀ b, hA = some ⟨b, 0, none⟩ → b < l2 ∧ b ≠ pb
  l : vs.length = j
  o : w.ownsRow l2 26 1 v j vs
  r : RowsAt w l2 v j (fun t => (st.n, Y t)) vs
  z : l2 ≤ w.heap.size
theorem EAt.gr {W w w' : World} {B qb lo l2 : Nat} {st : St} {bx bl : Nat} {pA gA : Option Addr} {pc gc : Nat} {tA : Option Addr} {tn tc pb : Nat} {hA : Option Addr} {lpc hc : Nat} {P : Nat → Pk} {v : Value} {j : Nat} {Y : Nat → Nat → Int} {vs : List Value} (h : EAt W w B qb lo l2 st bx bl pA gA pc gc tA tn tc pb hA lpc hc P v j Y vs)
    (hm : MAt W w' B qb st bx pA gA pc gc tA tn tc) (hg : w.grownBy w' (some qb)) : EAt W w' B qb lo l2 st bx bl pA gA pc gc tA tn tc pb hA lpc hc P v j Y vs := by
  have h1 := h.h1
  have h2 := h.h2
  have h3 := h.h3
  have hk : ∀ i, lo ≤ i → i < w.heap.size → w'.heap[i]? = w.heap[i]? := fun i a b => hg.block i b (fun e => by injection e with e; omega)
  exact ⟨hm, h.s.same (hg.block _ h.s.lt (fun e => by injection e with e; omega)), h.p.keep hk, h.g.keep hk, h1, h2, h3, h.h4, h.l, own_keep h.o hg (by omega), h.r.keep hg.size (fun b a c => hk b (by omega) c), Nat.le_trans h.z hg.size⟩
theorem EAt.later {W w w' : World} {B qb lo l2 : Nat} {st : St} {bx bl : Nat} {pA gA : Option Addr} {pc gc : Nat} {tA : Option Addr} {tn tc pb : Nat} {hA : Option Addr} {lpc hc : Nat} {P : Nat → Pk} {v : Value} {j : Nat} {Y : Nat → Nat → Int} {vs : List Value} (h : EAt W w B qb lo l2 st bx bl pA gA pc gc tA tn tc pb hA lpc hc P v j Y vs)
    (hb : Below w.heap.size w w') : EAt W w' B qb lo l2 st bx bl pA gA pc gc tA tn tc pb hA lpc hc P v j Y vs := h.gr (h.m.later hb) (gb_of_below qb hb)
theorem EAt.keep {W w w' : World} {B qb lo l2 : Nat} {st : St} {bx bl : Nat} {pA gA : Option Addr} {pc gc : Nat} {tA : Option Addr} {tn tc pb : Nat} {hA : Option Addr} {lpc hc : Nat} {P : Nat → Pk} {v : Value} {j : Nat} {Y : Nat → Nat → Int} {vs : List Value} (h : EAt W w B qb lo l2 st bx bl pA gA pc gc tA tn tc pb hA lpc hc P v j Y vs)
    (hg : w.grownBy w' (some qb)) (hch : Chute w' W.heap.size qb tA tn tc) : EAt W w' B qb lo l2 st bx bl pA gA pc gc tA tn tc pb hA lpc hc P v j Y vs := h.gr (h.m.keep hg hch) hg
/-- a store of sacks -/
theorem EAt.take {W w : World} {B qb lo l2 : Nat} {st : St} {bx bl : Nat} {pA gA : Option Addr} {pc gc : Nat} {tA : Option Addr} {tn tc pb : Nat} {hA : Option Addr} {lpc hc : Nat} {P : Nat → Pk} {v : Value} {j : Nat} {Y : Nat → Nat → Int} {vs : List Value} (h : EAt W w B qb lo l2 st bx bl pA gA pc gc tA tn tc pb hA lpc hc P v j Y vs)
    {i : Nat} (hi : i < st.n) (x : Int) : EAt W (w.setCell ⟨pb, i * 4, none⟩ (.int .i64 x)) B qb lo l2 st bx bl pA gA pc gc tA tn tc pb hA lpc hc (fun t => if t = i then { P t with s := x } else P t) v j Y vs := by
  have h1 := h.h1
  have h2 := h.h2
  have h3 := h.h3
  have hb : Below lo w (w.setCell ⟨pb, i * 4, none⟩ (.int .i64 x)) := Below.setCell (Below.refl _ _) (by dsimp only; omega) _
  have hk : ∀ b, b ≠ pb → (w.setCell ⟨pb, i * 4, none⟩ (.int .i64 x)).heap[b]? = w.heap[b]? := fun b hb => set_heap _ (by dsimp only; omega)
  refine ⟨h.m.over h1 hb (by rw [setCell_sz]; exact Nat.le_refl _), h.s.same (hk _ (by omega)), h.p.setS hi x, h.g.keepB (fun b hb => hk b (h.h4 b hb).2), h1, h2, h3, h.h4, h.l, ?_, h.r.keep (by rw [setCell_sz]; exact Nat.le_refl _) (fun b a _ => hk b (by omega)), by rw [setCell_sz]; exact h.z⟩
  exact own_keep h.o (gb_set w pb (i * 4) (.int .i64 x)) (by omega)
theorem EAt.congrP {W w : World} {B qb lo l2 : Nat} {st : St} {bx bl : Nat} {pA gA : Option Addr} {pc gc : Nat} {tA : Option Addr} {tn tc pb : Nat} {hA : Option Addr} {lpc hc : Nat} {P : Nat → Pk} {v : Value} {j : Nat} {Y : Nat → Nat → Int} {vs : List Value} (h : EAt W w B qb lo l2 st bx bl pA gA pc gc tA tn tc pb hA lpc hc P v j Y vs) {Q : Nat → Pk} (e : ∀ k, k < st.n → P k = Q k) : EAt W w B qb lo l2 st bx bl pA gA pc gc tA tn tc pb hA lpc hc Q v j Y vs :=
  ⟨h.m, h.s, h.p.congr e, h.g, h.h1, h.h2, h.h3, h.h4, h.l, h.o, h.r, h.z⟩
/-- a row more of the plan -/
theorem EAt.add {W w : World} {B qb lo l2 : Nat} {st : St} {bx bl : Nat} {pA gA : Option Addr} {pc gc : Nat} {tA : Option Addr} {tn tc pb : Nat} {hA : Option Addr} {lpc hc : Nat} {P : Nat → Pk} {v : Value} {j : Nat} {Y : Nat → Nat → Int} {vs : List Value} (h : EAt W w B qb lo l2 st bx bl pA gA pc gc tA tn tc pb hA lpc hc P v j Y vs) {w' : World} {v' : Value} {j' : Nat} {Y' : Nat → Nat → Int} {vs' : List Value} (hb : Below l2 w w') (hs : w.heap.size ≤ w'.heap.size) (hl : vs'.length = j') (ho : w'.ownsRow l2 26 1 v' j' vs') (hr : RowsAt w' l2 v' j' (fun t => (st.n, Y' t)) vs') : EAt W w' B qb lo l2 st bx bl pA gA pc gc tA tn tc pb hA lpc hc P v' j' Y' vs' := by
  have h1 := h.h1
  have h2 := h.h2
  have h3 := h.h3
  exact ⟨h.m.over (lo := l2) (by omega) hb hs, h.s.same (hb.block _ h3.2.2.2.1), h.p.keepB (fun b e => by injection e with e; injection e with e; subst e; exact hb.block _ h3.2.1), h.g.keepB (fun b e => hb.block _ (h.h4 b e).1), h1, h2, h3, h.h4, hl, ho, hr, Nat.le_trans h.z hs⟩
end Go.Proofs.Ytegmomappbehcaa

set_option linter.unusedSimpArgs false
set_option linter.unusedVariables false
namespace Go.Proofs.Ytegmomappbehcaa
open Go.RowKit Go.Shelf

set_option maxRecDepth 100000 in
set_option maxHeartbeats 8000000 in
theorem earned_law (nA : Option Addr) (nn nc : Nat) (tA : Option Addr) (tn tc : Nat) (W : World) (hby : ByIn W W.heap.size nA nn) (hln : nn ≤ 9223372036854775807) (hby2 : ByIn W W.heap.size tA tn) (hln2 : tn ≤ 9223372036854775807) :
    Calls Try.prog 13 #[.slice nA nn nc, .slice tA tn tc] W fun e W' => e = .returned (.bool true) ∧ Below W.heap.size W W' := by
  have HBY := Lib.hid hby
  have HBY2 := Lib.hid hby2
  clear hby hby2
  go_enter Try.func13, Try.ntmps13
  go_wp2_with fail
  refine (fill_any W.heap.size nA nn nc _ (Nat.le_refl _) HBY.out).mono ?_
  rintro e w1 ⟨cb, rfl, hcb, hb1, hch⟩
  have HB1 := Lib.hid hb1
  have HC1 := Lib.hid hch
  have hs1 := hb1.size
  have hcl : cb < w1.heap.size := by
    obtain ⟨u, z, _, h⟩ := hch
    exact h.lt
  clear hb1 hch
  go_wp2_with fail
  refine (made_any 3 4 (by omega) (by omega) W.heap.size cb nA nn nc hln _ hs1 hcl HC1.out).mono ?_
  rintro e w2 ⟨st, R, pA, gA, rA, pc, gc, rc, rfl, hn, hm, hl, hgood, ⟨gf, gp, hgd⟩, hop, hog, hor, hpc, hgc, hrc, hg2, hch2⟩
  have hn4 : st.n ≤ 4 := by omega
  have hgp := (hgd.1 0 (by omega)).2
  have hg0 : 40 ≤ (st.G 0).price ∧ (st.G 0).price ≤ 60 := by omega
  clear hgp
  have HST := Lib.hid (made_ok ⟨hn.1, hn4⟩ hm hl (by omega) hgood hgd)
  have HB2 := Lib.hid (HB1.out.trans (gb_below hg2 hs1 hcb))
  have hs2 := hg2.size
  have HOP := Lib.hid hop
  have HOG := Lib.hid hog
  clear hgood hgd hop hog hor hch2 hg2 hrc HB1 HC1
  go_wp2_with fail
  have hba : Below w2.heap.size w2 (w2.alloc (.cells #[.slice pA st.n pc, .slice gA st.m gc, .int .i64 st.lots] 25)) := (by repeat (first | (with_reducible exact Below.refl _ _) | (with_reducible refine Below.drew ?_) | (with_reducible refine below_drewN ?_ _) | ((with_reducible refine below_alloc ?_ ?_ _); · (first | exact Nat.le_refl _ | omega | (simp; done) | (simp; omega) | (simp at *; omega))) | ((with_reducible refine below_set ?_ ?_ _); · (first | exact Nat.le_refl _ | omega | (simp; done) | (simp; omega) | (simp at *; omega))) | ((with_reducible refine below_via (by with_reducible assumption) ?_ ?_); · (first | exact Nat.le_refl _ | omega | (simp; done) | (simp; omega) | (simp at *; omega)))))
  have HSA : Hid (StAt (w2.alloc (.cells #[.slice pA st.n pc, .slice gA st.m gc, .int .i64 st.lots] 25)) w2.heap.size pA st.n pc gA st.m gc st.lots) := Lib.hid (by (repeat' refine And.intro ?_ ?_) <;> (repeat (first | (with_reducible assumption) | (simp; done) | (with_reducible refine cell_drew_of ?_) | (with_reducible refine cell_drewN_of ?_) | (with_reducible refine cell_below_of (by with_reducible assumption) ?_) | ((with_reducible refine cell_new_of ?_ ?_) <;> (first | (with_reducible rfl) | (simp; done))) | ((with_reducible refine fro_new_of ?_) <;> (first | (with_reducible rfl) | (simp; done))) | (with_reducible refine cell_alloc_of _ ?_) | (with_reducible refine cell_set_of _ (by (first | exact Nat.le_refl _ | omega | (simp; done) | (simp; omega))) ?_) | (with_reducible refine fro_drew_of ?_) | (with_reducible refine fro_drewN_of ?_) | (with_reducible refine fro_below_of (by with_reducible assumption) (by (first | exact Nat.le_refl _ | omega | (simp; done) | (simp; omega))) ?_) | (with_reducible refine fro_alloc_of _ (by (first | exact Nat.le_refl _ | omega | (simp; done) | (simp; omega))) ?_) | (with_reducible refine fro_set_of _ ?_))))
  have HBA := Lib.hid (HB2.out.trans (hba.mono (by omega)))
  have HRA := Lib.hid (StRow.of_own (HOP.out.later hba) (HOG.out.later hba) (by omega) (by omega) hpc hgc)
  have HBY3 := Lib.hid (ByIn.later HBY2.out HBA.out)
  refine (fill_any W.heap.size tA tn tc _ (by simp; omega) HBY3.out).mono ?_
  rintro e w3 ⟨qb, rfl, hqb, hb3, hch3⟩
  have hs3 := hb3.size
  have hql : qb < w3.heap.size := by
    obtain ⟨u, z, _, h⟩ := hch3
    exact h.lt
  have H3 : Hid (MAt W w3 (w2.heap.size + 1) qb st w2.heap.size pA gA pc gc tA tn tc) := Lib.hid ⟨HSA.out.later hb3, by have := HRA.out.later hb3; simpa using this, hch3, HBA.out.trans (hb3.mono (by simp; omega)), by omega, by simpa using hqb, by omega, hql⟩
  clear hba HSA HBA HRA HBY2 HBY3 HB2 HOP HOG hb3 hch3 HBY
  have hql' := H3.out.hc
  obtain ⟨s0, s1, s2⟩ := H3.out.s
  go_wp2_with fail
  refine (Best_any st _ pA gA pc gc _ H3.out.r).mono ?_
  rintro e w4 ⟨hb, hp⟩
  rcases hp with ⟨_, bA, bc, rfl, hro, hbc⟩ | ⟨h0, _⟩
  · have H4 := Lib.hid (H3.out.later hb)
    have HPE := Lib.hid (St.plan_earns HST.out)
    have HPR := Lib.hid (hro.plan st.planL (fun j x hj => by
      show (st.n, ((st.planN st.lots.toNat st.all).getD j bagZ).at) = _
      rw [List.getD_eq_getElem?_getD, hj]; rfl))
    have HPD : Hid (∀ j, st.planL j = (st.n, ((st.planN st.lots.toNat st.all).getD j bagZ).at)) := Lib.hid (fun j => rfl)
    have hlen := St.planN_len st st.lots.toNat st.all
    have hzb := St.choose_bd HST.out st.lots.toNat st.all (St.all_self HST.out)
    have HBO := Lib.hid (bound_ok HST.out (X := fun _ => (st.G 0).price) hm.1 (fun k hk => rfl))
    have HBF : Hid (∀ X : Nat → Int, (∀ k, k < st.n → 0 ≤ X k ∧ X k ≤ 100) → (st.boundR st.n X = (0, 8)) ∨ ((st.boundR st.n X).2 = 0 ∧ (st.choose st.lots.toNat st.all).2 ≤ (st.boundR st.n X).1)) := Lib.hid (fun X h => bound_fits HST.out h)
    have HTR : Hid (∀ (m : Nat) (Y : Nat → Nat → Int), (m : Int) ≤ st.lots → (∀ j, j < m → ∀ i, i < st.n → 0 ≤ Y j i) → (∀ i, i < st.n → sumN (fun j => Y j i) m ≤ (st.P i).s) → ∃ v, st.earnsR m (fun j => (st.n, Y j)) = (v, 0) ∧ v ≤ (st.choose st.lots.toNat st.all).2 ∧ 0 ≤ v ∧ v ≤ 10000) := Lib.hid (fun m Y a b c => tried_ok HST.out a b c)
    clear hb hro s0 s1 s2 H3
    obtain ⟨z, hz⟩ : ∃ z, (st.choose st.lots.toNat st.all).2 = z := ⟨_, rfl⟩
    rw [hz] at HPE HBO HBF HTR hzb ⊢
    have hzc : 0 ≤ z ∧ z ≤ 10000 := by omega
    clear hz hzb
    generalize (st.planN st.lots.toNat st.all).length = len at HPE HPR hlen hbc ⊢
    have hlen3 : ¬ st.lots < (len : Int) := by omega
    have hlen4 : len ≤ 3 := by omega
    have hz1 : (z != z) = false := by simp
    have hz2 : ¬ z < 0 := by omega
    clear hlen
    obtain ⟨s0, s1, s2⟩ := H4.out.s
    go_wp2_with fail
    refine (Earns_any st _ pA gA pc gc bA len bc st.planL _ H4.out.r HPR.out (by omega) (fun j hj => by rw [HPD.out j]; show st.n ≤ 1000; omega)).mono ?_
    rintro e w5 ⟨rfl, hb⟩
    rw [HPE.out]
    have H5 := Lib.hid (H4.out.later hb)
    have hq5 := H5.out.hc
    clear hb s0 s1 s2 H4 HPR HPE HPD
    obtain ⟨s0, s1, s2⟩ := H5.out.s
    obtain ⟨i0, hi, hz0, hz3, hz4⟩ := info_parts infoInt
    obtain ⟨p0, hp0⟩ : ∃ p, (st.G 0).price = p := ⟨_, rfl⟩
    rw [hp0] at hg0 HBO
    have HP0 := Lib.hid hp0
    clear hp0
    go_upto_region 9 with fail
    go_loopw [13, 68] (fun v i wr => ∃ k : Nat, k ≤ st.n ∧ i = .int .i64 k ∧ Hid (wr.ownsRow w5.heap.size 3 1 v k (numCells (fun _ => p0) k)) ∧ Hid (MAt W wr (w2.heap.size + 1) qb st w2.heap.size pA gA pc gc tA tn tc) ∧ w5.heap.size ≤ wr.heap.size) (fun _ i _ => st.n - (intOf i).toNat)
    case atStart => exact ⟨0, Nat.zero_le _, rfl, Lib.hid (World.ownsRow_nil _ _ _ _), H5, Nat.le_refl _⟩
    case round =>
      clear H5 s0 s1 s2
      obtain ⟨k, hk, rfl, hown, HR, hsw⟩ := hrel
      by_cases hlt : k < st.n
      · have hkn : (k : Int) < (st.n : Int) := by omega
        have hk0 : (0 : Int) ≤ (k : Int) := by omega
        have hm0 : (0 : Int) < (st.m : Int) := by omega
        obtain ⟨s0, s1, s2⟩ := HR.out.s
        obtain ⟨gb, go, rfl, hgl, g0, g1⟩ := HR.out.r.g 0 (by omega)
        rw [HP0.out] at g1
        have hv1 := hown.out.lt
        go_wp2_with (at_builtin; refine wpList_append_lies _ rfl (.tmp 70) (.tmp 76) 26 rfl w5.heap.size 3 i0 (.int .i64 0) 1 8 ints_under hi hz0 hz3 hz4 rfl (by decide) u13 k (numCells (fun _ => p0) k) rfl (hown.out.alloc _) ⟨wr.heap.size, 0, none⟩ 1 1 [.int .i64 p0] rfl rfl (new_cells (cs := [.int .i64 p0])) (by intro u hu; simp only [List.mem_cons, List.not_mem_nil, or_false] at hu; subst hu; rfl) (by omega) (by unfold maxLen; omega) (by omega) (by simp; omega) (wr.heap.size + 1) (by simp) ?_; intro g cap w6 hown6 hgr6 hat6 hlt6)
        have HO6 : Hid (w6.ownsRow w5.heap.size 3 1 (.slice (some ⟨g, 0, none⟩) (k + 1) cap) (k + 1) (numCells (fun _ => p0) (k + 1))) := Lib.hid (by rw [numCells_succ]; exact hown6)
        have HB6 : Hid (Below w5.heap.size wr w6) := Lib.hid (Below.grown (show Below w5.heap.size wr _ from (by repeat (first | (with_reducible exact Below.refl _ _) | (with_reducible assumption) | (with_reducible refine Below.drew ?_) | ((with_reducible refine below_alloc ?_ ?_ _); (· (first | exact Nat.le_refl _ | omega | (dsimp only; omega) | (simp only [World.size_alloc, World.size_drew, World.heap_drewN]; omega) | (simp; omega)))) | ((with_reducible refine below_set ?_ ?_ _); (· (first | exact Nat.le_refl _ | omega | (dsimp only; omega) | (simp only [World.size_alloc, World.size_drew, World.heap_drewN]; omega) | (simp; omega)))) | ((with_reducible refine below_via (by with_reducible assumption) ?_ ?_); (· (first | exact Nat.le_refl _ | omega | (dsimp only; omega) | (simp only [World.size_alloc, World.size_drew, World.heap_drewN]; omega) | (simp; omega))))))) hgr6 (by simp; omega) (fun k hk => (hv1 k hk).1))
        have hs6 : wr.heap.size ≤ w6.heap.size := by have := hgr6.size; simp at this; omega
        have HR6 := Lib.hid (HR.out.over hq5 HB6.out hs6)
        clear hown6 hgr6 hat6 hlt6 HB6 s0 s1 s2 g0 g1
        go_wp2_with fail
        go_roundw
        case rel => exact ⟨k + 1, by omega, by go_num, HO6, HR6, by omega⟩
        case measure => simp [intOf]; omega
      · obtain rfl : k = st.n := by omega
        have hge : ¬ (st.n : Int) < (st.n : Int) := by omega
        obtain ⟨A, c, rfl, hr, hcl⟩ := ownInt_of hown.out
        obtain ⟨ab, hA, hal, _⟩ := hr 0 hn.1
        subst hA
        have HRP := Lib.hid hr
        clear hr hown
        obtain ⟨s0, s1, s2⟩ := HR.out.s
        go_wp2_with fail
        refine (Bound_any st _ pA gA pc gc (some ⟨ab, 0, none⟩) st.n c (fun _ => p0) _ HR.out.r HRP.out.row (by omega) hcl).mono ?_
        rintro e w7 ⟨rfl, hb⟩
        obtain ⟨hb0, hb1⟩ := HBO.out
        obtain ⟨⟨bd, be⟩, hbd⟩ : ∃ q, st.boundR st.n (fun _ => p0) = q := ⟨_, rfl⟩
        rw [hbd] at hb0 hb1 ⊢
        dsimp only at hb0 hb1
        subst hb0
        have hbz : ¬ bd < z := by omega
        have H7 := Lib.hid (HR.out.later hb)
        have HRP7 := Lib.hid (HRP.out.later hb)
        clear hb hb1 hbd s0 s1 s2 HR HRP HBO
        go_upto_region 16 with fail
        go_loopw [94] (fun i wr => ∃ (k : Nat) (X : Nat → Int), k ≤ st.n ∧ i = .int .i64 k ∧ Hid (OwnInt wr w5.heap.size (some ⟨ab, 0, none⟩) st.n X) ∧ Hid (∀ j, j < st.n → (k ≤ j → X j = p0) ∧ 0 ≤ X j ∧ X j ≤ 100) ∧ Hid (MAt W wr (w2.heap.size + 1) qb st w2.heap.size pA gA pc gc tA tn tc)) (fun i _ => st.n - (intOf i).toNat)
        case atStart => exact ⟨0, fun _ => p0, Nat.zero_le _, rfl, HRP7, Lib.hid (fun j _ => ⟨fun _ => rfl, by show 0 ≤ p0; omega, by show p0 ≤ 100; omega⟩), H7⟩
        case round =>
          clear H7 HRP7
          obtain ⟨k, X, hk, rfl, HX, HXB, HR⟩ := hrel
          by_cases hlt : k < st.n
          · have hkn : (k : Int) < (st.n : Int) := by omega
            have hk0 : (0 : Int) ≤ (k : Int) := by omega
            obtain ⟨wo, rfl⟩ : ∃ wo, wo = wr := ⟨_, rfl⟩
            obtain ⟨ab2, hA2, hal2, a0, af⟩ := HX.out k hlt
            obtain rfl : ab = ab2 := by simpa using hA2
            rw [(HXB.out k hlt).1 (Nat.le_refl _)] at a0
            have af0 := af k
            have hao := World.block_lt_of_cell? wo _ a0
            dsimp only at hao
            have HCH := Lib.hid HR.out.c
            clear hA2 af
            go_upto_region 18 with fail
            go_region_with (first | (go_at_call 47; refine (pull_any W.heap.size qb tA tn tc 30 (by omega) hln2 _ (HCH.out.later (by repeat (first | (with_reducible exact Below.refl _ _) | (with_reducible assumption) | (with_reducible refine Below.drew ?_) | ((with_reducible refine below_alloc ?_ ?_ _); (· (first | exact Nat.le_refl _ | omega | (dsimp only; omega) | (simp only [World.size_alloc, World.size_drew, World.heap_drewN]; omega) | (simp; omega)))) | ((with_reducible refine below_set ?_ ?_ _); (· (first | exact Nat.le_refl _ | omega | (dsimp only; omega) | (simp only [World.size_alloc, World.size_drew, World.heap_drewN]; omega) | (simp; omega)))) | ((with_reducible refine below_via (by with_reducible assumption) ?_ ?_); (· (first | exact Nat.le_refl _ | omega | (dsimp only; omega) | (simp only [World.size_alloc, World.size_drew, World.heap_drewN]; omega) | (simp; omega)))))))).mono ?_; rintro e w3 ⟨x, rfl, hx0, hx1, hg3, hc3⟩; have hx2 : x < 30 := (by omega); have hz3 := hg3.size; (try simp only [World.size_drew, World.heap_drewN, World.size_alloc] at hz3); have a3 := cell_same (w := wo) (show w3.heap[ab]? = wo.heap[ab]? from hg3.block ab (by first | omega | (simp; omega)) (fun e => by injection e with e; omega)) a0; have f3 := fro_same (w := wo) (show w3.heap[ab]? = wo.heap[ab]? from hg3.block ab (by first | omega | (simp; omega)) (fun e => by injection e with e; omega)) af0; have e9 : IntKind.i64.wrap (p0 - x) = p0 - x := IntWalk.i64_in _ (by omega)))
            all_goals
              have hgo : wo.grownBy w3 (some qb) := gb_trans (gb_of_below qb (show Below wo.heap.size wo _ from (by repeat (first | (with_reducible exact Below.refl _ _) | (with_reducible assumption) | (with_reducible refine Below.drew ?_) | ((with_reducible refine below_alloc ?_ ?_ _); (· (first | exact Nat.le_refl _ | omega | (dsimp only; omega) | (simp only [World.size_alloc, World.size_drew, World.heap_drewN]; omega) | (simp; omega)))) | ((with_reducible refine below_set ?_ ?_ _); (· (first | exact Nat.le_refl _ | omega | (dsimp only; omega) | (simp only [World.size_alloc, World.size_drew, World.heap_drewN]; omega) | (simp; omega)))) | ((with_reducible refine below_via (by with_reducible assumption) ?_ ?_); (· (first | exact Nat.le_refl _ | omega | (dsimp only; omega) | (simp only [World.size_alloc, World.size_drew, World.heap_drewN]; omega) | (simp; omega)))))))) hg3
              have HX3 : Hid (OwnInt (w3.setCell ⟨ab, k, none⟩ (.int .i64 (p0 - x))) w5.heap.size (some ⟨ab, 0, none⟩) st.n (fun t => if t = k then p0 - x else X t)) := Lib.hid ((HX.out.keep (w' := w3) (fun b h1 h2 => hgo.block b h2 (fun e => by injection e with e; omega))).put hlt (p0 - x))
              have HB3 : Hid (∀ j, j < st.n → (k + 1 ≤ j → (if j = k then p0 - x else X j) = p0) ∧ 0 ≤ (if j = k then p0 - x else X j) ∧ (if j = k then p0 - x else X j) ≤ 100) := Lib.hid (fun j hj => by
                by_cases e : j = k
                · rw [if_pos e]; exact ⟨fun h => by omega, by omega, by omega⟩
                · rw [if_neg e]; exact ⟨fun h => (HXB.out j hj).1 (by omega), (HXB.out j hj).2⟩)
              have HR3 : Hid (MAt W (w3.setCell ⟨ab, k, none⟩ (.int .i64 (p0 - x))) (w2.heap.size + 1) qb st w2.heap.size pA gA pc gc tA tn tc) := Lib.hid ((HR.out.keep hgo hc3).over (lo := w5.heap.size) hq5 (Below.setCell (Below.refl _ _) (by dsimp only; omega) _) (by rw [setCell_sz]; exact Nat.le_refl _))
              clear hg3 hc3 hgo a0 af0 hx0 hx1 a3 f3 e9
              go_wp2_with fail
              go_roundw
              case rel => exact ⟨k + 1, _, by omega, by go_num, HX3, HB3, HR3⟩
              case measure => simp [intOf]; omega
          · obtain rfl : k = st.n := by omega
            have hge : ¬ (st.n : Int) < (st.n : Int) := by omega
            obtain ⟨s0, s1, s2⟩ := HR.out.s
            go_wp2_with fail
            refine (Bound_any st _ pA gA pc gc (some ⟨ab, 0, none⟩) st.n c X _ HR.out.r HX.out.row (by omega) hcl).mono ?_
            rintro e w8 ⟨rfl, hb⟩
            obtain ⟨⟨bd2, be2⟩, hbd⟩ : ∃ q, st.boundR st.n X = q := ⟨_, rfl⟩
            have hbf := HBF.out X (fun j hj => (HXB.out j hj).2)
            rw [hbd] at hbf ⊢
            have HBE : Hid (be2 = 8 ∨ (be2 = 0 ∧ z ≤ bd2)) := Lib.hid (by
              rcases hbf with h | ⟨h1, h2⟩
              · injection h with h1 h2; exact .inl h2
              · exact .inr ⟨h1, h2⟩)
            have H8 := Lib.hid (HR.out.later hb)
            clear hb hbf hbd s0 s1 s2 HR HX HXB HBF
            go_upto_region 21 with fail
            go_cut [122] (fun cc wx => cc = .bool false ∧ Hid (MAt W wx (w2.heap.size + 1) qb st w2.heap.size pA gA pc gc tA tn tc))
            case first =>
              rcases HBE.out with rfl | ⟨rfl, hle⟩
              · go_wp2_with fail
                go_meet
                exact ⟨rfl, H8⟩
              · have hlt2 : ¬ bd2 < z := by omega
                clear hle
                go_wp2_with fail
                go_meet
                exact ⟨rfl, H8⟩
            case rest =>
              obtain ⟨rfl, H9⟩ := hcut
              clear H8 HBE
              obtain ⟨i1, hi1, hy0, hy1, hy2⟩ := info_parts infoRow
              go_upto_region 24 with fail
              go_loopw [123] (fun i wr => ∃ r : Nat, r ≤ 5 ∧ i = .int .i64 r ∧ Hid (MAt W wr (w2.heap.size + 1) qb st w2.heap.size pA gA pc gc tA tn tc)) (fun i _ => 5 - (intOf i).toNat)
              case atStart => exact ⟨0, by omega, rfl, H9⟩
              case round =>
                clear H9
                obtain ⟨r, hr5, rfl, HR⟩ := hrel
                by_cases hrt : r < 5
                · have hri : (r : Int) < 5 := by omega
                  obtain ⟨wo, rfl⟩ : ∃ wo, wo = wr := ⟨_, rfl⟩
                  have hqo := HR.out.hc
                  obtain ⟨s0, s1, s2⟩ := HR.out.s
                  go_wp2_with fail
                  refine (own_any st _ pA gA pc gc _ HR.out.r).mono ?_
                  rintro e wa ⟨hb, lpA, lpc, lgA, lgc, rfl, hop, hog, hlp, hlg, hdis⟩
                  obtain ⟨pb, hpA, hpl, hpc0, _⟩ := hop 0 hn.1
                  subst hpA
                  have hpl2 := World.block_lt_of_cell? wa _ hpc0
                  dsimp only at hpl2
                  have hsa := hb.size
                  have HRa := Lib.hid (HR.out.later hb)
                  have HOP := Lib.hid hop
                  have HOG := Lib.hid hog
                  have HGB : Hid (∀ b, lgA = some ⟨b, 0, none⟩ → b < wa.heap.size + 1 ∧ b ≠ pb) := Lib.hid (fun b e => by
                    obtain ⟨b2, h1, h2, h3, _⟩ := hog 0 hm.1
                    rw [e] at h1
                    injection h1 with h1
                    injection h1 with h1
                    subst h1
                    have := World.block_lt_of_cell? wa _ h3
                    dsimp only at this
                    exact ⟨by omega, hdis pb b rfl e hn.1 hm.1⟩)
                  clear hb hop hog hdis hpc0 s0 s1 s2 HR
                  go_upto_region 26 with fail
                  refine wp_name (fun W2 => StAt W2 wa.heap.size (some ⟨pb, 0, none⟩) st.n lpc lgA st.m lgc st.lots ∧ Below wa.heap.size wa W2 ∧ wa.heap.size + 1 ≤ W2.heap.size) ⟨(by (repeat' refine And.intro ?_ ?_) <;> (repeat (first | (with_reducible assumption) | (simp; done) | (with_reducible refine cell_drew_of ?_) | (with_reducible refine cell_drewN_of ?_) | (with_reducible refine cell_below_of (by with_reducible assumption) ?_) | ((with_reducible refine cell_new_of ?_ ?_) <;> (first | (with_reducible rfl) | (simp; done))) | ((with_reducible refine fro_new_of ?_) <;> (first | (with_reducible rfl) | (simp; done))) | (with_reducible refine cell_alloc_of _ ?_) | (with_reducible refine cell_set_of _ (by (first | exact Nat.le_refl _ | omega | (simp; done) | (simp; omega))) ?_) | (with_reducible refine fro_drew_of ?_) | (with_reducible refine fro_drewN_of ?_) | (with_reducible refine fro_below_of (by with_reducible assumption) (by (first | exact Nat.le_refl _ | omega | (simp; done) | (simp; omega))) ?_) | (with_reducible refine fro_alloc_of _ (by (first | exact Nat.le_refl _ | omega | (simp; done) | (simp; omega))) ?_) | (with_reducible refine fro_set_of _ ?_)))), (by repeat (first | (with_reducible exact Below.refl _ _) | (with_reducible refine Below.drew ?_) | (with_reducible refine below_drewN ?_ _) | ((with_reducible refine below_alloc ?_ ?_ _); · (first | exact Nat.le_refl _ | omega | (simp; done) | (simp; omega) | (simp at *; omega))) | ((with_reducible refine below_set ?_ ?_ _); · (first | exact Nat.le_refl _ | omega | (simp; done) | (simp; omega) | (simp at *; omega))) | ((with_reducible refine below_via (by with_reducible assumption) ?_ ?_); · (first | exact Nat.le_refl _ | omega | (simp; done) | (simp; omega) | (simp at *; omega))))), by simp⟩ ?_
                  rintro W2 ⟨hst2, hb2, hs2'⟩
                  have HE0 : Hid (EAt W W2 (w2.heap.size + 1) qb wo.heap.size (wa.heap.size + 1) st w2.heap.size wa.heap.size pA gA pc gc tA tn tc pb lgA lpc lgc (leftSt st (fun _ _ => 0) 0).P (.slice none 0 0) 0 (fun _ _ => 0) []) := Lib.hid ⟨HRa.out.later hb2, hst2, (HOP.out.later hb2).congr (fun k hk => by show st.P k = { st.P k with s := (st.P k).s - 0 }; rw [Int.sub_zero]), HOG.out.later hb2, hqo, by omega, ⟨hpl, by omega, by omega, by omega, by omega⟩, HGB.out, rfl, World.ownsRow_nil _ _ _ _, fun j hj => absurd hj (by omega), hs2'⟩
                  clear hst2 hb2 HRa HOP HOG HGB
                  have el : IntKind.i64.wrap (st.lots + 1) = st.lots + 1 := IntWalk.i64_in _ (by omega)
                  obtain ⟨s0, s1, s2⟩ := HE0.out.m.s
                  go_wp2_with fail
                  refine (pull_any W.heap.size qb tA tn tc (st.lots + 1) (by omega) hln2 _ HE0.out.m.c).mono ?_
                  rintro e wb ⟨x, rfl, hx0, hx1, hg, hc⟩
                  obtain ⟨mm, rfl⟩ := Int.eq_ofNat_of_zero_le hx0
                  have hmm : (mm : Int) ≤ st.lots := by omega
                  have hmm3 : mm ≤ 3 := by omega
                  have HE1 := Lib.hid (HE0.out.keep hg hc)
                  clear hx0 hx1 hg hc s0 s1 s2 HE0 el
                  go_upto_region 28 with fail
                  go_loopw [17, 132] (fun v i wr => ∃ (j : Nat) (Y : Nat → Nat → Int) (vs : List Value), j ≤ mm ∧ i = .int .i64 j ∧ Hid (EAt W wr (w2.heap.size + 1) qb wo.heap.size (wa.heap.size + 1) st w2.heap.size wa.heap.size pA gA pc gc tA tn tc pb lgA lpc lgc (leftSt st Y j).P v j Y vs) ∧ Hid (∀ t, t < j → ∀ i, i < st.n → 0 ≤ Y t i) ∧ Hid (∀ i, i < st.n → sumN (fun t => Y t i) j ≤ (st.P i).s)) (fun _ i _ => mm - (intOf i).toNat)
                  case atStart => exact ⟨0, fun _ _ => 0, [], Nat.zero_le _, rfl, HE1, Lib.hid (fun t h => absurd h (by omega)), Lib.hid (fun i hi => (HST.out.pk i hi).1.1)⟩
                  case round =>
                    clear HE1
                    obtain ⟨j, Y, vs, hj, rfl, HE, HYN, HYS⟩ := hrel
                    by_cases hjt : j < mm
                    · have hji : (j : Int) < (mm : Int) := by omega
                      obtain ⟨wv, rfl⟩ : ∃ wv, wv = wr := ⟨_, rfl⟩
                      have hqv := HE.out.m.hc
                      have hz2v := HE.out.z
                      have HV : Hid (∀ b, u17.ownBlock = some b → b < wv.heap.size) := Lib.hid (fun b hb => (HE.out.o.lt b hb).2)
                      obtain ⟨t0, t1, t2⟩ := HE.out.s
                      go_wp2_with fail
                      refine (madelot_any (leftSt st Y j) W.heap.size _ qb tA tn tc hln2 (some ⟨pb, 0, none⟩) lgA lpc lgc _ (StRow.of_own (st := leftSt st Y j) HE.out.p HE.out.g (by show st.n ≤ 1000; omega) (by show st.m ≤ 1000; omega) hlp hlg) (fun a ha => by injection ha with ha; subst ha; dsimp only; omega) hn4 (fun i hi => by
                        have h1 := HYS.out i hi
                        have h2 := (HST.out.pk i hi).1
                        have h3 := sumN_nn (f := fun t => Y t i) (n := j) (fun t ht => HYN.out t ht i hi)
                        show 0 ≤ (st.P i).s - sumN (fun t => Y t i) j ∧ (st.P i).s - sumN (fun t => Y t i) j ≤ 6
                        omega) HE.out.m.b.size hqv HE.out.m.c).mono ?_
                      rintro e wd ⟨lA, lc, X, rfl, hol, hlc, hx, hg, hch⟩
                      have HE2 := Lib.hid (HE.out.keep hg hch)
                      have HX : Hid (∀ i, i < st.n → 0 ≤ X i ∧ X i ≤ (st.P i).s - sumN (fun t => Y t i) j) := Lib.hid hx
                      obtain ⟨lb, hlA, hll, _⟩ := hol 0 hn.1
                      subst hlA
                      have HOL : Hid (OwnInt wd wv.heap.size (some ⟨lb, 0, none⟩) st.n X) := Lib.hid hol
                      have hlc' : st.n ≤ lc := hlc
                      clear hol hlc hx hg hch t0 t1 t2 HE
                      go_upto_region 31 with fail
                      go_loopw [139] (fun v wr => ∃ i : Nat, i ≤ st.n ∧ v = .int .i64 i ∧ Hid (EAt W wr (w2.heap.size + 1) qb wo.heap.size (wa.heap.size + 1) st w2.heap.size wa.heap.size pA gA pc gc tA tn tc pb lgA lpc lgc (fun t => if t < i then { (leftSt st Y j).P t with s := ((leftSt st Y j).P t).s - X t } else (leftSt st Y j).P t) u17 j Y vs) ∧ Hid (OwnInt wr wv.heap.size (some ⟨lb, 0, none⟩) st.n X)) (fun v _ => st.n - (intOf v).toNat)
                      case atStart => exact ⟨0, Nat.zero_le _, rfl, Lib.hid (HE2.out.congrP (fun k hk => by rw [if_neg (by omega)])), HOL⟩
                      case round =>
                        clear HE2 HOL
                        obtain ⟨i, hi', rfl, HEi, HOi⟩ := hrel
                        obtain ⟨wz, rfl⟩ : ∃ wz, wz = wr := ⟨_, rfl⟩
                        by_cases hit : i < st.n
                        · have hin : (i : Int) < (st.n : Int) := by omega
                          have hi0 : (0 : Int) ≤ (i : Int) := by omega
                          obtain ⟨lb2, hlA2, _, l0, _⟩ := HOi.out i hit
                          obtain rfl : lb = lb2 := by simpa using hlA2
                          obtain ⟨pb2, hpA2, hpl3, q0, _, _, _, pf⟩ := HEi.out.p i hit
                          obtain rfl : pb = pb2 := by simpa using hpA2
                          dsimp only at q0
                          rw [if_neg (by omega)] at q0
                          have pf0 := pf (i * 4)
                          have hxi := HX.out i hit
                          have hs1 := (HST.out.pk i hit).1
                          have hs3' := sumN_nn (f := fun t => Y t i) (n := j) (fun t ht => HYN.out t ht i hit)
                          obtain ⟨t0, t1, t2⟩ := HEi.out.s
                          obtain ⟨sl, hsl⟩ : ∃ sl, ((leftSt st Y j).P i).s = sl := ⟨_, rfl⟩
                          have hsl2 : 0 ≤ sl ∧ sl ≤ 6 ∧ X i ≤ sl := by
                            rw [← hsl]
                            show 0 ≤ (st.P i).s - sumN (fun t => Y t i) j ∧ (st.P i).s - sumN (fun t => Y t i) j ≤ 6 ∧ X i ≤ (st.P i).s - sumN (fun t => Y t i) j
                            omega
                          rw [hsl] at q0
                          have HSL := Lib.hid hsl
                          have hx0i := hxi.1
                          clear hlA2 hpA2 pf hxi hs1 hs3' hsl
                          go_wp2_with fail
                          go_roundw
                          case rel => exact ⟨i + 1, by omega, by go_num, Lib.hid ((HEi.out.take hit _).congrP (fun k hk => by
                            dsimp only
                            by_cases e : k = i
                            · subst e
                              rw [if_pos rfl, if_neg (by omega), if_pos (by omega), HSL.out]
                            · rw [if_neg e]
                              by_cases e2 : k < i
                              · rw [if_pos e2, if_pos (by omega)]
                              · rw [if_neg e2, if_neg (by omega)])), Lib.hid (HOi.out.keep (fun b h1 h2 => set_heap _ (by dsimp only; omega)))⟩
                          case measure => simp [intOf]; omega
                        · obtain rfl : i = st.n := by omega
                          have hge : ¬ (st.n : Int) < (st.n : Int) := by omega
                          have hv1 := HEi.out.o.lt
                          have hzz := HEi.out.z
                          go_wp2_with (at_builtin; refine wpList_append_lies _ rfl (.tmp 155) (.tmp 157) 84 rfl (wa.heap.size + 1) 26 i1 (.slice none 0 0) 1 24 rows_under hi1 hy0 hy1 hy2 rfl (by decide) u17 j vs rfl (HEi.out.o.alloc _) ⟨wz.heap.size, 0, none⟩ 1 1 [.slice (some ⟨lb, 0, none⟩) st.n lc] rfl rfl (new_cells (cs := [.slice (some ⟨lb, 0, none⟩) st.n lc])) (by intro u hu; simp only [List.mem_cons, List.not_mem_nil, or_false] at hu; subst hu; rfl) (by omega) (by unfold maxLen; omega) (by omega) (by simp; omega) (wz.heap.size + 1) (by simp) ?_; intro g cap w6 hown6 hgr6 hat6 hlt6)
                          have HB6 : Hid (Below (wa.heap.size + 1) wz w6) := Lib.hid (Below.grown (show Below (wa.heap.size + 1) wz _ from (by repeat (first | (with_reducible exact Below.refl _ _) | (with_reducible assumption) | (with_reducible refine Below.drew ?_) | ((with_reducible refine below_alloc ?_ ?_ _); (· (first | exact Nat.le_refl _ | omega | (dsimp only; omega) | (simp only [World.size_alloc, World.size_drew, World.heap_drewN]; omega) | (simp; omega)))) | ((with_reducible refine below_set ?_ ?_ _); (· (first | exact Nat.le_refl _ | omega | (dsimp only; omega) | (simp only [World.size_alloc, World.size_drew, World.heap_drewN]; omega) | (simp; omega)))) | ((with_reducible refine below_via (by with_reducible assumption) ?_ ?_); (· (first | exact Nat.le_refl _ | omega | (dsimp only; omega) | (simp only [World.size_alloc, World.size_drew, World.heap_drewN]; omega) | (simp; omega))))))) hgr6 (by simp; omega) (fun k hk => (hv1 k hk).1))
                          have hs6 : wz.heap.size ≤ w6.heap.size := by have := hgr6.size; simp at this; omega
                          have HR6 : Hid (RowsAt w6 (wa.heap.size + 1) (.slice (some ⟨g, 0, none⟩) (j + 1) cap) (j + 1) (fun t => (st.n, putRow Y j X t)) (vs ++ [.slice (some ⟨lb, 0, none⟩) st.n lc])) := Lib.hid (RowsAt.put (g := g) (H := wz.heap.size + 1) (M := wv.heap.size) (L := fun t => (st.n, putRow Y j X t)) (HEi.out.r.congr (fun t ht => by unfold putRow; rw [if_neg (by omega)])) HEi.out.l (by omega) HV.out (HOi.out.congr (fun k hk => by unfold putRow; rw [if_pos rfl])) hlc' (fun b hb => Below.heap_alloc _ _ _ hb) (by simp) hgr6 rfl hat6 (by omega))
                          have HE6 : Hid (EAt W w6 (w2.heap.size + 1) qb wo.heap.size (wa.heap.size + 1) st w2.heap.size wa.heap.size pA gA pc gc tA tn tc pb lgA lpc lgc (leftSt st (putRow Y j X) (j + 1)).P (.slice (some ⟨g, 0, none⟩) (j + 1) cap) (j + 1) (putRow Y j X) (vs ++ [.slice (some ⟨lb, 0, none⟩) st.n lc])) := Lib.hid ((HEi.out.add HB6.out hs6 (by rw [List.length_append, HEi.out.l]; rfl) hown6 HR6.out).congrP (fun k hk => by
                            rw [if_pos hk]
                            unfold leftSt
                            dsimp only
                            rw [put_sum, Int.sub_sub]))
                          have HYN6 : Hid (∀ t, t < j + 1 → ∀ i, i < st.n → 0 ≤ putRow Y j X t i) := Lib.hid (fun t ht i hi => by
                            unfold putRow
                            by_cases e : t = j
                            · rw [if_pos e]; exact (HX.out i hi).1
                            · rw [if_neg e]; exact HYN.out t (by omega) i hi)
                          have HYS6 : Hid (∀ i, i < st.n → sumN (fun t => putRow Y j X t i) (j + 1) ≤ (st.P i).s) := Lib.hid (fun i hi => by
                            rw [put_sum]
                            have := (HX.out i hi).2
                            omega)
                          clear hown6 hgr6 hat6 hlt6 HB6 HR6 hv1
                          go_wp2_with fail
                          go_roundw
                          case rel => exact ⟨j + 1, _, _, by omega, by go_num, HE6, HYN6, HYS6⟩
                          case measure => simp [intOf]; omega
                    · obtain rfl : j = mm := by omega
                      have hge : ¬ (j : Int) < (j : Int) := by omega
                      obtain ⟨A2, c2, rfl, hpl4, hcl2⟩ := HE.out.r.plan HE.out.o
                      have HPL := Lib.hid hpl4.row
                      obtain ⟨ev, he, hev1, hev2, hev3⟩ := HTR.out j Y hmm HYN.out HYS.out
                      clear hpl4
                      have HEV := Lib.hid he
                      clear he
                      obtain ⟨s0, s1, s2⟩ := HE.out.m.s
                      go_wp2_with fail
                      refine (Earns_any st _ pA gA pc gc A2 j c2 (fun j => (st.n, Y j)) _ HE.out.m.r HPL.out (by omega) (fun j hj => by show st.n ≤ 1000; omega)).mono ?_
                      rintro e we ⟨rfl, hb⟩
                      rw [HEV.out]
                      have hnz : ¬ z < ev := by omega
                      have HR6 := Lib.hid (HE.out.m.later hb)
                      clear hb s0 s1 s2 HE HPL HYN HYS
                      go_wp2_with fail
                      go_roundw
                      case rel => exact ⟨r + 1, by omega, by go_num, HR6⟩
                      case measure => simp [intOf]; omega
                · obtain rfl : r = 5 := by omega
                  have hge : ¬ ((5 : Nat) : Int) < 5 := by omega
                  go_wp2_with fail
                  refine (awake_any _).mono ?_
                  rintro e wc ⟨rfl, hb⟩
                  have Hc := Lib.hid (HR.out.b.trans (hb.mono HR.out.b.size))
                  clear hb
                  go_wp2_with fail
                  go_ret
                  exact ⟨rfl, Hc.out⟩
  · exact absurd (St.check_ok.2 HST.out) h0
end Go.Proofs.Ytegmomappbehcaa

set_option linter.unusedSimpArgs false
set_option linter.unusedVariables false
namespace Go.Proofs.Ytegmomappbehcaa
open Go.ChangeShapes Go.WideShapes Go.ChangeAt Go.RowKit

set_option maxRecDepth 100000 in
set_option maxHeartbeats 1000000 in
theorem earned_lifted (os : Os) (started : os.Started) (H : Type) (enc : TypeId × Value → H) :
    ReturnsInHanded {} Try.checked os 13 .any (Rows.lotEarnedSpec.pre6 enc Try.prog Try.f13 Rows.lotEarnedRow.domain false) (Rows.lotEarnedSpec.post enc Try.prog Try.f13 false true false false) := by
  refine returnsInHanded_of_change (C := Try.checked) own_knob started (by kernel_rfl) Try.func13
    (ChangeSpec.witness6 (enc := enc) (C := Try.checked) false ⟨#[], #[.slice none 0 0, .slice none 0 0], []⟩ 8 (by kernel_rfl) (by kernel_rfl) (by kernel_rfl) (by kernel_rfl)) ?_
  intro W base args ds gs before hval0 hW hcnd _
  have hval : ∀ (j : Nat) t v, Try.f13.params[j]? = some t → args[j]? = some v → Value.okWide Try.prog W .any base t v := hval0
  have hW' := hW
  obtain ⟨p, q, hA0, hV, rfl, hfz, hnd⟩ := hW
  have hA : DataW.TrodAll enc Try.prog W 0 (fun _ => true) true Try.f13.params.toList args.toList ds p := hA0
  rw [Try.params13] at hA hval
  obtain ⟨v0, v1, d0, d1, p0, p1, rfl, rfl, rfl, h0, h1⟩ := trodAll_two hA
  obtain ⟨rfl, rfl⟩ := trodVars_none hV
  obtain ⟨a0, n0, c0, rfl⟩ := okWide_slice Try.underlying63 (hval 0 63 v0 rfl rfl)
  have h0k := h0
  obtain ⟨f0, g0⟩ := h0
  obtain ⟨A, n, c, hv, hby0, hmx0⟩ := open_bytes (v := .slice a0 n0 c0) g0
  injection hv with hv1 hv2 hv3
  subst hv1 hv2 hv3
  obtain ⟨a1, n1, c1, rfl⟩ := okWide_slice Try.underlying63 (hval 1 63 v1 rfl rfl)
  have h1k := h1
  obtain ⟨f1, g1⟩ := h1
  obtain ⟨A, n, c, hv, hby1, hmx1⟩ := open_bytes (v := .slice a1 n1 c1) g1
  injection hv with hv1 hv2 hv3
  subst hv1 hv2 hv3
  clear hA0 hval0
  simp only [List.append_nil] at hW'
  have hlt0 : ∀ x ∈ p0, x.block < W.heap.size := fun x hx => hW'.lt x (by simp [hx])
  have hlt1 : ∀ x ∈ p1, x.block < W.heap.size := fun x hx => hW'.lt x (by simp [hx])
  refine (earned_law a0 n0 c0 a1 n1 c1 W hby0 (by unfold maxLen at hmx0; omega) hby1 (by unfold maxLen at hmx1; omega)).mono fun e W' ⟨he, bel⟩ => ?_
  subst he
  exact ⟨_, rfl, _, _, _, [], _, [], hW', trodAll_mk1 (shut_bool Try.underlying4 true),
    trodAll_mk2 (Below.trod laid_out (by kernel_rfl) (of_decide_eq_true (by kernel_rfl)) h0k bel hlt0) (Below.trod laid_out (by kernel_rfl) (of_decide_eq_true (by kernel_rfl)) h1k bel hlt1), rfl, bel.frame _, fun h => by cases h⟩

theorem lot_earned_holds : Rows.LotEarnedSaid :=
  OpenClaim.holds_of_wide 13 Try.f13 rfl rfl rfl rfl rfl rfl rfl ⟨rfl, rfl, rfl, rfl, rfl⟩ rfl rfl rfl rfl rfl (by kernel_rfl) Try.func13 (by kernel_rfl)
    (of_decide_eq_true (by kernel_rfl)) (by unfold Func.isWrapper; first | (rw [if_pos (by decide +kernel)]; kernel_rfl) | (rw [if_neg (by decide +kernel)]; exact ⟨rfl, rfl⟩))
    (fun os started H enc _ => earned_lifted os started H enc)
#print axioms lot_earned_holds
end Go.Proofs.Ytegmomappbehcaa
