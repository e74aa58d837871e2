/- LotPays: the joined statement. -/
import Derived.Test.YtegmomappbehcaaTk
import Derived.Deep.AppendLies
import Derived.Deep.RegionHeldLaw
import Derived.Test.YtegmomappbehcaaLc
import Derived.Test.YtegmomappbehcaaTs
import Derived.Test.YtegmomappbehcaaRows
import Derived.Test.YtegmomappbehcaaPo
set_option linter.unusedSimpArgs false
set_option linter.unusedVariables false
namespace Go.Proofs.Ytegmomappbehcaa
open Go.RowKit Go.Shelf

theorem choose_step_val (st : St) (k : Nat) (left : Bag) (l : List Bag) (b : Bag) (hb : st.brings b ≠ 0) :
    (st.choOf k left (l ++ [b])).2 = max (st.choOf k left l).2 (st.brings b + (st.choose k (left.less b)).2) := by
  rw [St.choOf_snoc]
  unfold St.chStep
  rw [if_neg hb]
  by_cases h : (st.choOf k left l).2 < st.brings b + (st.choose k (left.less b)).2
  · rw [if_pos (by simpa using h)]
    show st.brings b + (st.choose k (left.less b)).2 = _
    omega
  · rw [if_neg (by simpa using h)]
    omega
theorem choose_skip (st : St) (k : Nat) (left : Bag) (l : List Bag) (b : Bag) (hb : st.brings b = 0) : st.choOf k left (l ++ [b]) = st.choOf k left l := by
  rw [St.choOf_snoc]
  unfold St.chStep
  rw [if_pos hb]
theorem pre_in {st : St} (h4 : st.n ≤ 4) {left : Bag} (hl : left.in_ st.all) : pre left st.n = bagsOf left := pre_n h4 (fun k h1 h2 => by
  have := Bag.in_at hl k
  rw [st.all_at k h2, if_neg (by omega)] at this
  omega)
theorem less_at (x y : Bag) : ∀ k, k < 4 → (x.less y).at k = x.at k - y.at k
  | 0, _ => rfl
  | 1, _ => rfl
  | 2, _ => rfl
  | 3, _ => rfl
  | k + 4, h => absurd h (by omega)

/-- what earn gives -/
def EarnOk (st : St) (k : Nat) : Prop := ∀ (left : Bag) (B : Nat) (pA gA : Option Addr) (pc gc : Nat) (lA : Option Addr) (lc : Nat) (W : World), left.in_ st.all → StRow W B st pA pc gA gc → IntRow W W.heap.size lA st.n left.at →
  Calls Try.prog 122 #[stV pA st.n pc gA st.m gc st.lots, .slice lA st.n lc, .int .i64 k] W fun e W' => e = .returned (.int .i64 (st.choose k left).2) ∧ Below W.heap.size W W'

set_option maxRecDepth 100000 in
set_option maxHeartbeats 1000000 in
theorem earn_zero (st : St) : EarnOk st 0 := by
  intro left B pA gA pc gc lA lc W hl hs hr
  go_enter Try.func122, Try.ntmps122
  go_wp2_with fail
  go_ret
  exact ⟨rfl, (by repeat (first | (with_reducible exact Below.refl _ _) | (with_reducible refine Below.drew ?_) | (with_reducible refine below_drewN ?_ _) | ((with_reducible refine below_alloc ?_ ?_ _); · (first | exact Nat.le_refl _ | omega | (simp; done) | (simp; omega) | (simp at *; omega))) | ((with_reducible refine below_set ?_ ?_ _); · (first | exact Nat.le_refl _ | omega | (simp; done) | (simp; omega) | (simp at *; omega))) | ((with_reducible refine below_via (by with_reducible assumption) ?_ ?_); · (first | exact Nat.le_refl _ | omega | (simp; done) | (simp; omega) | (simp at *; omega)))))⟩

set_option maxRecDepth 100000 in
set_option maxHeartbeats 4000000 in
theorem earn_step (st : St) (hst : st.ok) (d : Nat) (hd : d ≤ 2) (ih : EarnOk st d) : EarnOk st (d + 1) := by
  intro left B pA gA pc gc lA lc W hl hs hr
  have HS := Lib.hid hs
  have HL := Lib.hid hr
  have HI := Lib.hid hl
  have HO := Lib.hid hst
  have IH := Lib.hid ih
  have hB := hs.lt
  have n1 := hst.n1
  have n4 := hst.n4
  clear hs hr hst ih
  obtain ⟨i0, hi, hz0, hz1, hz2⟩ := info_parts infoInt
  have hd0 : (((d + 1 : Nat) : Int) == 0) = false := by rw [beq_eq_false_iff_ne]; omega
  have hd1 : IntKind.i64.wrap (((d + 1 : Nat) : Int) - 1) = (d : Int) := by rw [IntWalk.i64_in _ (by omega)]; omega
  obtain ⟨dd, hdd⟩ : ∃ dd, ((d + 1 : Nat) : Int) = dd := ⟨_, rfl⟩
  rw [hdd] at hd0 hd1 ⊢
  clear hdd
  go_enter Try.func122, Try.ntmps122
  go_wp2_with fail
  have hb0 : Below W.heap.size W (W.alloc (.cells #[.slice pA st.n pc, .slice gA st.m gc, .int .i64 st.lots] 34)) := (by repeat (first | (with_reducible exact Below.refl _ _) | (with_reducible refine Below.drew ?_) | (with_reducible refine below_drewN ?_ _) | ((with_reducible refine below_alloc ?_ ?_ _); · (first | exact Nat.le_refl _ | omega | (simp; done) | (simp; omega) | (simp at *; omega))) | ((with_reducible refine below_set ?_ ?_ _); · (first | exact Nat.le_refl _ | omega | (simp; done) | (simp; omega) | (simp at *; omega))) | ((with_reducible refine below_via (by with_reducible assumption) ?_ ?_); · (first | exact Nat.le_refl _ | omega | (simp; done) | (simp; omega) | (simp at *; omega)))))
  refine (rlots_any st.n n4 left (fun k hk => by have := Bag.in_at HI.out k; have := St.all_bd HO.out k; omega) lA lc _ (HL.out.later hb0)).mono ?_
  rintro e w1 ⟨⟨LA, lcap, rfl, hrows, hlc⟩, hb1⟩
  rw [pre_in n4 HI.out] at hrows hlc ⊢
  have HB1 := Lib.hid (show Below W.heap.size W w1 from (by repeat (first | (with_reducible exact Below.refl _ _) | (with_reducible refine Below.drew ?_) | (with_reducible refine below_drewN ?_ _) | ((with_reducible refine below_alloc ?_ ?_ _); · (first | exact Nat.le_refl _ | omega | (simp; done) | (simp; omega) | (simp at *; omega))) | ((with_reducible refine below_set ?_ ?_ _); · (first | exact Nat.le_refl _ | omega | (simp; done) | (simp; omega) | (simp at *; omega))) | ((with_reducible refine below_via (by with_reducible assumption) ?_ ?_); · (first | exact Nat.le_refl _ | omega | (simp; done) | (simp; omega) | (simp at *; omega))))))
  have hs1 := hb1.size
  simp only [World.size_alloc] at hs1
  have HA := Lib.hid (show w1.cell? ⟨W.heap.size, 0, none⟩ = some (.slice pA st.n pc) ∧ w1.cell? ⟨W.heap.size, 1, none⟩ = some (.slice gA st.m gc) ∧ w1.cell? ⟨W.heap.size, 2, none⟩ = some (.int .i64 st.lots) from ⟨cell_below_of hb1 (by (repeat' refine And.intro ?_ ?_) <;> (repeat (first | (with_reducible assumption) | (simp; done) | (with_reducible refine cell_drew_of ?_) | (with_reducible refine cell_drewN_of ?_) | (with_reducible refine cell_below_of (by with_reducible assumption) ?_) | ((with_reducible refine cell_new_of ?_ ?_) <;> (first | (with_reducible rfl) | (simp; done))) | ((with_reducible refine fro_new_of ?_) <;> (first | (with_reducible rfl) | (simp; done))) | (with_reducible refine cell_alloc_of _ ?_) | (with_reducible refine cell_set_of _ (by (first | exact Nat.le_refl _ | omega | (simp; done) | (simp; omega))) ?_) | (with_reducible refine fro_drew_of ?_) | (with_reducible refine fro_drewN_of ?_) | (with_reducible refine fro_below_of (by with_reducible assumption) (by (first | exact Nat.le_refl _ | omega | (simp; done) | (simp; omega))) ?_) | (with_reducible refine fro_alloc_of _ (by (first | exact Nat.le_refl _ | omega | (simp; done) | (simp; omega))) ?_) | (with_reducible refine fro_set_of _ ?_)))), cell_below_of hb1 (by (repeat' refine And.intro ?_ ?_) <;> (repeat (first | (with_reducible assumption) | (simp; done) | (with_reducible refine cell_drew_of ?_) | (with_reducible refine cell_drewN_of ?_) | (with_reducible refine cell_below_of (by with_reducible assumption) ?_) | ((with_reducible refine cell_new_of ?_ ?_) <;> (first | (with_reducible rfl) | (simp; done))) | ((with_reducible refine fro_new_of ?_) <;> (first | (with_reducible rfl) | (simp; done))) | (with_reducible refine cell_alloc_of _ ?_) | (with_reducible refine cell_set_of _ (by (first | exact Nat.le_refl _ | omega | (simp; done) | (simp; omega))) ?_) | (with_reducible refine fro_drew_of ?_) | (with_reducible refine fro_drewN_of ?_) | (with_reducible refine fro_below_of (by with_reducible assumption) (by (first | exact Nat.le_refl _ | omega | (simp; done) | (simp; omega))) ?_) | (with_reducible refine fro_alloc_of _ (by (first | exact Nat.le_refl _ | omega | (simp; done) | (simp; omega))) ?_) | (with_reducible refine fro_set_of _ ?_)))), cell_below_of hb1 (by (repeat' refine And.intro ?_ ?_) <;> (repeat (first | (with_reducible assumption) | (simp; done) | (with_reducible refine cell_drew_of ?_) | (with_reducible refine cell_drewN_of ?_) | (with_reducible refine cell_below_of (by with_reducible assumption) ?_) | ((with_reducible refine cell_new_of ?_ ?_) <;> (first | (with_reducible rfl) | (simp; done))) | ((with_reducible refine fro_new_of ?_) <;> (first | (with_reducible rfl) | (simp; done))) | (with_reducible refine cell_alloc_of _ ?_) | (with_reducible refine cell_set_of _ (by (first | exact Nat.le_refl _ | omega | (simp; done) | (simp; omega))) ?_) | (with_reducible refine fro_drew_of ?_) | (with_reducible refine fro_drewN_of ?_) | (with_reducible refine fro_below_of (by with_reducible assumption) (by (first | exact Nat.le_refl _ | omega | (simp; done) | (simp; omega))) ?_) | (with_reducible refine fro_alloc_of _ (by (first | exact Nat.le_refl _ | omega | (simp; done) | (simp; omega))) ?_) | (with_reducible refine fro_set_of _ ?_))))⟩)
  have HROWS := Lib.hid hrows
  have hLl := bagsOf_length (fun k hk => show left.at k ≤ 6 by have := Bag.in_at HI.out k; have := St.all_bd HO.out k; omega)
  have HIN : Hid (∀ b, b ∈ bagsOf left → b.in_ left) := Lib.hid (fun b hb => mem_bagsOf.1 hb)
  have HCH : Hid ((st.choose (d + 1) left).2 = (st.choOf d left (bagsOf left)).2) := Lib.hid (by rw [St.choose_succ])
  generalize hL : bagsOf left = L at *
  clear hb1 hrows hL hb0
  go_wp2_with fail
  go_loopw [7, 9] (fun v i wr => ∃ (k : Nat), k ≤ L.length ∧ i = .int .i64 k ∧ v = .int .i64 (st.choOf d left (L.take k)).2 ∧ Hid (Below w1.heap.size w1 wr)) (fun _ i _ => L.length - (intOf i).toNat)
  case atStart => exact ⟨0, by omega, rfl, rfl, Lib.hid (Below.refl _ _)⟩
  case round =>
    obtain ⟨k, hk, rfl, rfl, hbw⟩ := hrel
    have hsw := hbw.out.size
    have HBW := Lib.hid (HB1.out.trans (hbw.out.mono (by omega)))
    have hsW := HBW.out.size
    obtain ⟨a0, a1, a2⟩ := HA.out
    have a0 := cell_same (hbw.out.block _ (by omega)) a0
    have a1 := cell_same (hbw.out.block _ (by omega)) a1
    have a2 := cell_same (hbw.out.block _ (by omega)) a2
    by_cases hlt : k < L.length
    · obtain ⟨x, hx⟩ : ∃ x, L[k]? = some x := ⟨L[k], List.getElem?_eq_getElem hlt⟩
      obtain ⟨lb, lo, v, rfl, hlb, l0, rA, rc, rfl, hrc, hri, _⟩ := HROWS.out k x hx
      have HL0 := Lib.hid l0
      have l0 := cell_same (hbw.out.block _ hlb) l0
      have hk0 : (0 : Int) ≤ (k : Int) := by omega
      have hkn : (k : Int) < (L.length : Int) := by omega
      have HRI := Lib.hid hri
      have hxl := HIN.out x (List.mem_of_getElem? hx)
      have hxi := Bag.in_trans hxl HI.out
      have HXL := Lib.hid hxl
      have HXI := Lib.hid hxi
      have HXR := Lib.hid (fun k hk => St.in_all hxi k hk (by omega))
      have HXB := Lib.hid (bagOf_at_in n4 hxi)
      have HTK : Hid (L.take (k + 1) = L.take k ++ [x]) := Lib.hid (by rw [List.take_add_one, hx]; rfl)
      have bdb := St.brings_bd HO.out hxi
      have bdc := St.choose_bd HO.out d (left.less x) (Bag.in_trans (Bag.less_in hxl) HI.out)
      have hcb := (St.choOf_bd HO.out d HI.out (l := L.take k) (fun b hb => HIN.out b (List.mem_of_mem_take hb))).1
      have HLT := Lib.hid hlt
      clear hri hx hxl hxi
      go_wp2_with fail
      refine region_qbw (by kernel_rfl) (by kernel_rfl) ?_
      have x0 := cell_regrown a0
      have x1 := cell_regrown a1
      have x2 := cell_regrown a2
      have x3 := cell_regrown l0
      clear a0 a1 a2 l0
      repeat (first | go_big_quiet_step ((go_at_call 119; exact Calls.regrown_of (rbrings_any st HO.out B pA gA pc gc rA rc x.at _ (HS.out.later ((HBW.out.trans ((below_regrown _ _ _).mono hsW)).mono hB)) (HRI.out.later (hbw.out.trans ((below_regrown _ _ _).mono hsw))) HXR.out))) | quiet_step ((go_at_call 119; exact Calls.regrown_of (rbrings_any st HO.out B pA gA pc gc rA rc x.at _ (HS.out.later ((HBW.out.trans ((below_regrown _ _ _).mono hsW)).mono hB)) (HRI.out.later (hbw.out.trans ((below_regrown _ _ _).mono hsw))) HXR.out))))
      refine wpQuiet_nil ?_; intro wq hbq
      clear x0 x1 x2 x3
      rw [HXB.out]
      have hbw2 := Lib.hid (hbw.out.trans (hbq.mono hsw))
      have hsq := hbq.size
      clear hbq
      by_cases h0 : st.brings x = 0
      · have hb : (st.brings x == 0) = true := by simpa using h0
        have HNEW : Hid ((st.choOf d left (L.take (k + 1))).2 = (st.choOf d left (L.take k)).2) := Lib.hid (by rw [HTK.out, choose_skip st d left _ x h0])
        clear h0
        go_wp2_with fail
        go_roundw
        case rel => exact ⟨k + 1, HLT.out, by go_num, by rw [HNEW.out], hbw2⟩
        case measure => have := HLT.out; simp [intOf]; omega
      · have hb : (st.brings x == 0) = false := by simpa using h0
        have HNEW : Hid ((st.choOf d left (L.take (k + 1))).2 = max (st.choOf d left (L.take k)).2 (st.brings x + (st.choose d (left.less x)).2)) := Lib.hid (by rw [HTK.out, choose_step_val st d left _ x h0])
        clear h0
        obtain ⟨wo, rfl⟩ : ∃ wo, wo = wq := ⟨_, rfl⟩
        go_wp2_with fail
        go_loopw [11, 12] (fun v i wz => ∃ (j : Nat), j ≤ st.n ∧ i = .int .i64 j ∧ Hid (wz.ownsRow wo.heap.size 3 1 v j (numCells (left.less x).at j)) ∧ Hid (Below wo.heap.size wo wz)) (fun _ i _ => st.n - (intOf i).toNat)
        case atStart => exact ⟨0, by omega, rfl, Lib.hid (World.ownsRow_nil _ _ _ _), Lib.hid (Below.refl _ _)⟩
        case round =>
          obtain ⟨j, hj, rfl, hown, hbz⟩ := hrel
          have hsz := hbz.out.size
          have hbwz := Lib.hid (hbw2.out.trans (hbz.out.mono (by omega)))
          have HWZ := Lib.hid (HB1.out.trans (hbwz.out.mono (by omega)))
          have hsZ := HWZ.out.size
          by_cases hltj : j < st.n
          · obtain ⟨cb, co, rfl, hcb', c0⟩ := (HL.out.below HWZ.out) j hltj
            have m0 := cell_same (hbwz.out.block _ hlb) HL0.out
            obtain ⟨rb, ro, rfl, hrb, r0⟩ := HRI.out j hltj
            have r0 := cell_same (hbwz.out.block _ hrb) r0
            have hj0 : (0 : Int) ≤ (j : Int) := by omega
            have hjn : (j : Int) < (st.n : Int) := by omega
            have hl6 : 0 ≤ left.at j ∧ left.at j ≤ 6 := by have := Bag.in_at HI.out j; have := St.all_bd HO.out j; omega
            have hx6 := Bag.in_at HXL.out j
            have ew : IntKind.i64.wrap (left.at j - x.at j) = left.at j - x.at j := IntWalk.i64_in _ (by omega)
            have HLA := Lib.hid (less_at left x j (by omega))
            have hv1 := hown.out.lt
            have hsw1 := hbwz.out.size
            have hwo1 := hbw2.out.size
            clear hl6 hx6
            go_upto_region 14 with fail
            go_region_held_law (fun w' => w'.cell? ⟨cb, co + j, none⟩ = some (.int .i64 (left.at j)) ∧ w'.cell? ⟨lb, lo + k, none⟩ = some (.slice (some ⟨rb, ro, none⟩) st.n rc) ∧ w'.cell? ⟨rb, ro + j, none⟩ = some (.int .i64 (x.at j))) (first | (go_split_ands; (refine ⟨?_, ?_, ?_⟩ <;> (refine (hgr6.cell_far _ ?_ ?_).trans ?_; (· (simp; omega)); (· (intro e; have := (hv1 _ e.symm).1; (try dsimp only at this); omega)); (· (repeat (first | (with_reducible assumption) | (simp; done) | (with_reducible refine cell_drew_of ?_) | (with_reducible refine cell_drewN_of ?_) | (with_reducible refine cell_below_of (by with_reducible assumption) ?_) | ((with_reducible refine cell_new_of ?_ ?_) <;> (first | (with_reducible rfl) | (simp; done))) | ((with_reducible refine fro_new_of ?_) <;> (first | (with_reducible rfl) | (simp; done))) | (with_reducible refine cell_alloc_of _ ?_) | (with_reducible refine cell_set_of _ (by (first | exact Nat.le_refl _ | omega | (simp; done) | (simp; omega))) ?_) | (with_reducible refine fro_drew_of ?_) | (with_reducible refine fro_drewN_of ?_) | (with_reducible refine fro_below_of (by with_reducible assumption) (by (first | exact Nat.le_refl _ | omega | (simp; done) | (simp; omega))) ?_) | (with_reducible refine fro_alloc_of _ (by (first | exact Nat.le_refl _ | omega | (simp; done) | (simp; omega))) ?_) | (with_reducible refine fro_set_of _ ?_)))))); done) | ((go_split_ands; (repeat' refine And.intro ?_ ?_) <;> (repeat (first | (with_reducible assumption) | (simp; done) | (with_reducible refine cell_drew_of ?_) | (with_reducible refine cell_drewN_of ?_) | (with_reducible refine cell_below_of (by with_reducible assumption) ?_) | ((with_reducible refine cell_new_of ?_ ?_) <;> (first | (with_reducible rfl) | (simp; done))) | ((with_reducible refine fro_new_of ?_) <;> (first | (with_reducible rfl) | (simp; done))) | (with_reducible refine cell_alloc_of _ ?_) | (with_reducible refine cell_set_of _ (by (first | exact Nat.le_refl _ | omega | (simp; done) | (simp; omega))) ?_) | (with_reducible refine fro_drew_of ?_) | (with_reducible refine fro_drewN_of ?_) | (with_reducible refine fro_below_of (by with_reducible assumption) (by (first | exact Nat.le_refl _ | omega | (simp; done) | (simp; omega))) ?_) | (with_reducible refine fro_alloc_of _ (by (first | exact Nat.le_refl _ | omega | (simp; done) | (simp; omega))) ?_) | (with_reducible refine fro_set_of _ ?_)))))) ((refine step_append_lies _ (by rfl) (.tmp 37) (.tmp 50) 26 (by rfl) wo.heap.size 3 i0 (.int .i64 0) 1 8 ints_under hi hz0 hz1 hz2 (by rfl) (by decide) u11 j (numCells (left.less x).at j) (by rfl) (owns_later hown.out (by repeat (first | (with_reducible exact Below.refl _ _) | (with_reducible assumption) | (with_reducible refine Below.drew ?_) | ((with_reducible refine below_alloc ?_ ?_ _); (· (first | exact Nat.le_refl _ | omega | (dsimp only; omega) | (simp only [World.size_alloc, World.size_drew, World.heap_drewN]; omega) | (simp; omega)))) | ((with_reducible refine below_set ?_ ?_ _); (· (first | exact Nat.le_refl _ | omega | (dsimp only; omega) | (simp only [World.size_alloc, World.size_drew, World.heap_drewN]; omega) | (simp; omega)))) | ((with_reducible refine below_via (by with_reducible assumption) ?_ ?_); (· (first | exact Nat.le_refl _ | omega | (dsimp only; omega) | (simp only [World.size_alloc, World.size_drew, World.heap_drewN]; omega) | (simp; omega))))))) ⟨wr.heap.size, 0, none⟩ 1 1 [.int .i64 (left.at j - x.at j)] (by rfl) rfl (fun jj uu hjj => new_cells (w := wr) (t := 3) (cs := [.int .i64 (left.at j - x.at j)]) jj uu hjj) (by intro u hu; simp only [List.mem_cons, List.not_mem_nil, or_false] at hu; subst hu; rfl) (by omega) (by unfold maxLen; omega) (by omega) (by simp; omega) (wr.heap.size + 1) (by simp) ?_; intro g cap w6 hown6 hgr6 hat6 hlt6))
            have HB6 : Hid (Below wo.heap.size wo w6) := Lib.hid (hbz.out.trans ⟨hgr6.os, hgr6.tape, hgr6.output, by have := hgr6.size; simp at this; omega, fun i hi => (hgr6.block i (by simp; omega) (fun e => by have := (hv1 i e.symm).1; omega)).trans (Below.heap_alloc _ _ _ (by omega))⟩)
            have HOWN6 : Hid (w6.ownsRow wo.heap.size 3 1 (.slice (some ⟨g, 0, none⟩) (j + 1) cap) (j + 1) (numCells (left.less x).at (j + 1))) := Lib.hid (by rw [numCells_succ, HLA.out]; exact hown6)
            clear hown6 hgr6 hat6 hlt6 c0 m0 r0
            go_wp2_with fail
            go_roundw
            case rel => exact ⟨j + 1, by omega, by go_num, HOWN6, HB6⟩
            case measure => simp [intOf]; omega
          · have hj' : j = st.n := by omega
            have hgej : ¬ (j : Int) < (st.n : Int) := by omega
            obtain ⟨A, c, rfl, hr, hcl, _⟩ := intOwn_of (show wr.ownsRow wo.heap.size 3 1 u11 st.n (numCells (left.less x).at st.n) by rw [hj'] at hown; exact hown.out)
            have HR := Lib.hid hr
            have m0 := cell_same (hbwz.out.block _ (by omega)) HA.out.1
            have m1 := cell_same (hbwz.out.block _ (by omega)) HA.out.2.1
            have m2 := cell_same (hbwz.out.block _ (by omega)) HA.out.2.2
            clear hr hj' hown
            go_wp2_with fail
            refine (IH.out (left.less x) B pA gA pc gc A c _ (Bag.in_trans (Bag.less_in HXL.out) HI.out) (HS.out.later (HWZ.out.mono hB)) HR.out).mono ?_
            rintro e w7 ⟨rfl, hb7⟩
            have hbw7 := Lib.hid (hbwz.out.trans (hb7.mono (by omega)))
            clear hb7 m0 m1 m2
            have ewa : IntKind.i64.wrap (st.brings x + (st.choose d (left.less x)).2) = st.brings x + (st.choose d (left.less x)).2 := IntWalk.i64_in _ (by omega)
            generalize (st.choose d (left.less x)).2 = cz at *
            generalize (st.choOf d left (L.take k)).2 = oz at *
            by_cases hgt : oz < st.brings x + cz
            · have HV : Hid ((st.choOf d left (L.take (k + 1))).2 = st.brings x + cz) := Lib.hid (by rw [HNEW.out]; omega)
              go_wp2_with fail
              go_roundw
              case rel => exact ⟨k + 1, HLT.out, by go_num, by rw [HV.out], hbw7⟩
              case measure => have := HLT.out; simp [intOf]; omega
            · have HV : Hid ((st.choOf d left (L.take (k + 1))).2 = oz) := Lib.hid (by rw [HNEW.out]; omega)
              go_wp2_with fail
              go_roundw
              case rel => exact ⟨k + 1, HLT.out, by go_num, by rw [HV.out], hbw7⟩
              case measure => have := HLT.out; simp [intOf]; omega
    · have hk' : k = L.length := by omega
      have hge : ¬ (k : Int) < (L.length : Int) := by omega
      have HF : Hid ((st.choOf d left (L.take k)).2 = (st.choose (d + 1) left).2) := Lib.hid (by rw [hk', List.take_length, HCH.out])
      clear hk'
      go_wp2_with fail
      go_ret
      exact ⟨by rw [← HF.out]; rfl, HBW.out⟩
theorem earn_any (st : St) (hst : st.ok) : ∀ d, d ≤ 3 → EarnOk st d
  | 0, _ => earn_zero st
  | d + 1, h => earn_step st hst d (by omega) (earn_any st hst d (by omega))

theorem all_in {st : St} (h : st.ok) : st.all.in_ st.all :=
  ⟨⟨(St.all_bd h 0).1, Int.le_refl _⟩, ⟨(St.all_bd h 1).1, Int.le_refl _⟩, ⟨(St.all_bd h 2).1, Int.le_refl _⟩, (St.all_bd h 3).1, Int.le_refl _⟩
theorem earn_all (st : St) (hst : st.ok) (B : Nat) (pA gA : Option Addr) (pc gc : Nat) (lA : Option Addr) (lc : Nat) (W : World) (hs : StRow W B st pA pc gA gc) (hr : IntRow W W.heap.size lA st.n (fun k => (st.P k).s)) :
    Calls Try.prog 122 #[stV pA st.n pc gA st.m gc st.lots, .slice lA st.n lc, .int .i64 st.lots] W fun e W' => e = .returned (.int .i64 (st.choose st.lots.toNat st.all).2) ∧ Below W.heap.size W W' := by
  have hl0 := hst.l0
  have hl3 := hst.l3
  obtain ⟨ll, hll⟩ := Int.eq_ofNat_of_zero_le hl0
  have h := earn_any st hst ll (by omega) st.all B pA gA pc gc lA lc W (all_in hst) hs (hr.congr (fun k hk => (all_at_lt hst.n4 hk).symm))
  have e : st.lots.toNat = ll := by omega
  rw [e, hll]
  rw [hll] at h
  exact h

set_option maxRecDepth 100000 in
set_option maxHeartbeats 2000000 in
theorem rBest_any (st : St) (B : Nat) (pA gA : Option Addr) (pc gc : Nat) (W : World) (hs : StRow W B st pA pc gA gc) :
    Calls Try.prog 65 #[stV pA st.n pc gA st.m gc st.lots] W fun e W' => e = .returned (.tuple #[.int .i64 (if st.check ≠ 0 then 0 else (st.choose st.lots.toNat st.all).2), .int .i64 st.check]) ∧ Below W.heap.size W W' := by
  have HS := Lib.hid hs
  have hB := hs.lt
  clear hs
  go_enter Try.func65, Try.ntmps65
  go_wp2_with fail
  refine (rcheck_any st B pA gA pc gc _ (HS.out.later (by repeat (first | (with_reducible exact Below.refl _ _) | (with_reducible refine Below.drew ?_) | (with_reducible refine below_drewN ?_ _) | ((with_reducible refine below_alloc ?_ ?_ _); · (first | exact Nat.le_refl _ | omega | (simp; done) | (simp; omega) | (simp at *; omega))) | ((with_reducible refine below_set ?_ ?_ _); · (first | exact Nat.le_refl _ | omega | (simp; done) | (simp; omega) | (simp at *; omega))) | ((with_reducible refine below_via (by with_reducible assumption) ?_ ?_); · (first | exact Nat.le_refl _ | omega | (simp; done) | (simp; omega) | (simp at *; omega))))))).mono ?_
  rintro e w1 ⟨rfl, hb1⟩
  have HB1 := Lib.hid (show Below W.heap.size W w1 from (by repeat (first | (with_reducible exact Below.refl _ _) | (with_reducible refine Below.drew ?_) | (with_reducible refine below_drewN ?_ _) | ((with_reducible refine below_alloc ?_ ?_ _); · (first | exact Nat.le_refl _ | omega | (simp; done) | (simp; omega) | (simp at *; omega))) | ((with_reducible refine below_set ?_ ?_ _); · (first | exact Nat.le_refl _ | omega | (simp; done) | (simp; omega) | (simp at *; omega))) | ((with_reducible refine below_via (by with_reducible assumption) ?_ ?_); · (first | exact Nat.le_refl _ | omega | (simp; done) | (simp; omega) | (simp at *; omega))))))
  have hs1 := hb1.size
  simp only [World.size_alloc] at hs1
  have HA := Lib.hid (show w1.cell? ⟨W.heap.size, 0, none⟩ = some (.slice pA st.n pc) ∧ w1.cell? ⟨W.heap.size, 1, none⟩ = some (.slice gA st.m gc) ∧ w1.cell? ⟨W.heap.size, 2, none⟩ = some (.int .i64 st.lots) from ⟨cell_below_of hb1 (by (repeat' refine And.intro ?_ ?_) <;> (repeat (first | (with_reducible assumption) | (simp; done) | (with_reducible refine cell_drew_of ?_) | (with_reducible refine cell_drewN_of ?_) | (with_reducible refine cell_below_of (by with_reducible assumption) ?_) | ((with_reducible refine cell_new_of ?_ ?_) <;> (first | (with_reducible rfl) | (simp; done))) | ((with_reducible refine fro_new_of ?_) <;> (first | (with_reducible rfl) | (simp; done))) | (with_reducible refine cell_alloc_of _ ?_) | (with_reducible refine cell_set_of _ (by (first | exact Nat.le_refl _ | omega | (simp; done) | (simp; omega))) ?_) | (with_reducible refine fro_drew_of ?_) | (with_reducible refine fro_drewN_of ?_) | (with_reducible refine fro_below_of (by with_reducible assumption) (by (first | exact Nat.le_refl _ | omega | (simp; done) | (simp; omega))) ?_) | (with_reducible refine fro_alloc_of _ (by (first | exact Nat.le_refl _ | omega | (simp; done) | (simp; omega))) ?_) | (with_reducible refine fro_set_of _ ?_)))), cell_below_of hb1 (by (repeat' refine And.intro ?_ ?_) <;> (repeat (first | (with_reducible assumption) | (simp; done) | (with_reducible refine cell_drew_of ?_) | (with_reducible refine cell_drewN_of ?_) | (with_reducible refine cell_below_of (by with_reducible assumption) ?_) | ((with_reducible refine cell_new_of ?_ ?_) <;> (first | (with_reducible rfl) | (simp; done))) | ((with_reducible refine fro_new_of ?_) <;> (first | (with_reducible rfl) | (simp; done))) | (with_reducible refine cell_alloc_of _ ?_) | (with_reducible refine cell_set_of _ (by (first | exact Nat.le_refl _ | omega | (simp; done) | (simp; omega))) ?_) | (with_reducible refine fro_drew_of ?_) | (with_reducible refine fro_drewN_of ?_) | (with_reducible refine fro_below_of (by with_reducible assumption) (by (first | exact Nat.le_refl _ | omega | (simp; done) | (simp; omega))) ?_) | (with_reducible refine fro_alloc_of _ (by (first | exact Nat.le_refl _ | omega | (simp; done) | (simp; omega))) ?_) | (with_reducible refine fro_set_of _ ?_)))), cell_below_of hb1 (by (repeat' refine And.intro ?_ ?_) <;> (repeat (first | (with_reducible assumption) | (simp; done) | (with_reducible refine cell_drew_of ?_) | (with_reducible refine cell_drewN_of ?_) | (with_reducible refine cell_below_of (by with_reducible assumption) ?_) | ((with_reducible refine cell_new_of ?_ ?_) <;> (first | (with_reducible rfl) | (simp; done))) | ((with_reducible refine fro_new_of ?_) <;> (first | (with_reducible rfl) | (simp; done))) | (with_reducible refine cell_alloc_of _ ?_) | (with_reducible refine cell_set_of _ (by (first | exact Nat.le_refl _ | omega | (simp; done) | (simp; omega))) ?_) | (with_reducible refine fro_drew_of ?_) | (with_reducible refine fro_drewN_of ?_) | (with_reducible refine fro_below_of (by with_reducible assumption) (by (first | exact Nat.le_refl _ | omega | (simp; done) | (simp; omega))) ?_) | (with_reducible refine fro_alloc_of _ (by (first | exact Nat.le_refl _ | omega | (simp; done) | (simp; omega))) ?_) | (with_reducible refine fro_set_of _ ?_))))⟩)
  clear hb1
  by_cases h0 : st.check = 0
  · have hnb : (st.check != 0) = false := by simpa using h0
    have HO := Lib.hid (St.check_ok.1 h0)
    have H0 := Lib.hid h0
    obtain ⟨a0, a1, a2⟩ := HA.out
    have n4 := HO.out.n4
    have hl0 := HO.out.l0
    have hl3 := HO.out.l3
    have hs1' := HB1.out.size
    clear h0
    go_upto_region 4 with fail
    go_region_held3 (fun w' => w'.cell? ⟨W.heap.size, 0, none⟩ = some (.slice pA st.n pc) ∧ w'.cell? ⟨W.heap.size, 1, none⟩ = some (.slice gA st.m gc) ∧ w'.cell? ⟨W.heap.size, 2, none⟩ = some (.int .i64 st.lots)) ((go_split_ands; (repeat' refine And.intro ?_ ?_) <;> (repeat (first | (with_reducible assumption) | (simp; done) | (with_reducible refine cell_drew_of ?_) | (with_reducible refine cell_drewN_of ?_) | (with_reducible refine cell_below_of (by with_reducible assumption) ?_) | ((with_reducible refine cell_new_of ?_ ?_) <;> (first | (with_reducible rfl) | (simp; done))) | ((with_reducible refine fro_new_of ?_) <;> (first | (with_reducible rfl) | (simp; done))) | (with_reducible refine cell_alloc_of _ ?_) | (with_reducible refine cell_set_of _ (by (first | exact Nat.le_refl _ | omega | (simp; done) | (simp; omega))) ?_) | (with_reducible refine fro_drew_of ?_) | (with_reducible refine fro_drewN_of ?_) | (with_reducible refine fro_below_of (by with_reducible assumption) (by (first | exact Nat.le_refl _ | omega | (simp; done) | (simp; omega))) ?_) | (with_reducible refine fro_alloc_of _ (by (first | exact Nat.le_refl _ | omega | (simp; done) | (simp; omega))) ?_) | (with_reducible refine fro_set_of _ ?_))))) (first | (go_at_call 84; refine (rwhole_any st B pA gA pc gc _ (HS.out.later ((show Below W.heap.size W _ from HB1.out.trans ((show Below w1.heap.size w1 _ from (by repeat (first | (with_reducible exact Below.refl _ _) | (with_reducible refine Below.drew ?_) | (with_reducible refine below_drewN ?_ _) | ((with_reducible refine below_alloc ?_ ?_ _); · (first | exact Nat.le_refl _ | omega | (simp; done) | (simp; omega) | (simp at *; omega))) | ((with_reducible refine below_set ?_ ?_ _); · (first | exact Nat.le_refl _ | omega | (simp; done) | (simp; omega) | (simp at *; omega))) | ((with_reducible refine below_via (by with_reducible assumption) ?_ ?_); · (first | exact Nat.le_refl _ | omega | (simp; done) | (simp; omega) | (simp at *; omega)))))).mono hs1')).mono hB))).mono ?_; rintro e wa ⟨⟨wA, wc, rfl, hwr, hwc⟩, hba⟩; obtain ⟨hca, hfa⟩ := bcell hba; have hza := hba.size; (try simp only [World.size_drew, World.heap_drewN, World.size_alloc] at hza); clear hca hfa) | (go_at_call 122; refine (earn_all st HO.out B pA gA pc gc wA wc _ (HS.out.later ((show Below W.heap.size W _ from HB1.out.trans ((show Below w1.heap.size w1 _ from (by repeat (first | (with_reducible exact Below.refl _ _) | (with_reducible refine Below.drew ?_) | (with_reducible refine below_drewN ?_ _) | ((with_reducible refine below_alloc ?_ ?_ _); · (first | exact Nat.le_refl _ | omega | (simp; done) | (simp; omega) | (simp at *; omega))) | ((with_reducible refine below_set ?_ ?_ _); · (first | exact Nat.le_refl _ | omega | (simp; done) | (simp; omega) | (simp at *; omega))) | ((with_reducible refine below_via (by with_reducible assumption) ?_ ?_); · (first | exact Nat.le_refl _ | omega | (simp; done) | (simp; omega) | (simp at *; omega)))))).mono hs1')).mono hB)) (hwr.later (by repeat (first | (with_reducible exact Below.refl _ _) | (with_reducible refine Below.drew ?_) | (with_reducible refine below_drewN ?_ _) | ((with_reducible refine below_alloc ?_ ?_ _); · (first | exact Nat.le_refl _ | omega | (simp; done) | (simp; omega) | (simp at *; omega))) | ((with_reducible refine below_set ?_ ?_ _); · (first | exact Nat.le_refl _ | omega | (simp; done) | (simp; omega) | (simp at *; omega))) | ((with_reducible refine below_via (by with_reducible assumption) ?_ ?_); · (first | exact Nat.le_refl _ | omega | (simp; done) | (simp; omega) | (simp at *; omega))))))).mono ?_; rintro e we ⟨rfl, hbe⟩; obtain ⟨hce, hfe⟩ := bcell hbe; have hze := hbe.size; (try simp only [World.size_drew, World.heap_drewN, World.size_alloc] at hze); clear hce hfe))
    have hbo := HB1.out
    go_wp2_with fail
    go_ret2
    exact ⟨by simp [H0.out], (by repeat (first | (with_reducible exact Below.refl _ _) | (with_reducible refine Below.drew ?_) | (with_reducible refine below_drewN ?_ _) | ((with_reducible refine below_alloc ?_ ?_ _); · (first | exact Nat.le_refl _ | omega | (simp; done) | (simp; omega) | (simp at *; omega))) | ((with_reducible refine below_set ?_ ?_ _); · (first | exact Nat.le_refl _ | omega | (simp; done) | (simp; omega) | (simp at *; omega))) | ((with_reducible refine below_via (by with_reducible assumption) ?_ ?_); · (first | exact Nat.le_refl _ | omega | (simp; done) | (simp; omega) | (simp at *; omega)))))⟩
  · have hnb : (st.check != 0) = true := by simpa using h0
    have H0 := Lib.hid h0
    clear h0
    go_wp2_with fail
    go_ret2
    exact ⟨rfl, HB1.out⟩
end Go.Proofs.Ytegmomappbehcaa

set_option linter.unusedSimpArgs false
set_option linter.unusedVariables false
namespace Go.Proofs.Ytegmomappbehcaa
open Go.RowKit Go.Shelf

/-- how many sacks there are, as far as their numbers are allowed -/
def St.sacks (st : St) (n : Nat) : Int := sumN (fun k => min (max (st.P k).s 0) 6) n
theorem St.sacks_bd (st : St) (n : Nat) : 0 ≤ st.sacks n ∧ st.sacks n ≤ 6 * (n : Int) := sumN_bd2 _ n 6 (fun k _ => by omega)

set_option maxRecDepth 100000 in
set_option maxHeartbeats 1000000 in
theorem sacks_any (st : St) (B : Nat) (pA gA : Option Addr) (pc gc : Nat) (W : World) (hs : StRow W B st pA pc gA gc) :
    Calls Try.prog 34 #[stV pA st.n pc gA st.m gc st.lots] W fun e W' => e = .returned (.int .i64 (st.sacks st.n)) ∧ Below W.heap.size W W' := by
  have HS := Lib.hid hs
  have hB := hs.lt
  have hn := hs.n
  clear hs
  go_enter Try.func34, Try.ntmps34
  go_wp2_with fail
  go_loopw [3, 9] (fun v i wr => ∃ k : Nat, k ≤ st.n ∧ i = .int .i64 k ∧ v = .int .i64 (st.sacks k) ∧ Hid (Below W.heap.size W wr)) (fun _ i _ => st.n - (intOf i).toNat)
  case atStart => exact ⟨0, Nat.zero_le _, rfl, rfl, Lib.hid (by repeat (first | (with_reducible exact Below.refl _ _) | (with_reducible refine Below.drew ?_) | (with_reducible refine below_drewN ?_ _) | ((with_reducible refine below_alloc ?_ ?_ _); · (first | exact Nat.le_refl _ | omega | (simp; done) | (simp; omega) | (simp at *; omega))) | ((with_reducible refine below_set ?_ ?_ _); · (first | exact Nat.le_refl _ | omega | (simp; done) | (simp; omega) | (simp at *; omega))) | ((with_reducible refine below_via (by with_reducible assumption) ?_ ?_); · (first | exact Nat.le_refl _ | omega | (simp; done) | (simp; omega) | (simp at *; omega)))))⟩
  case round =>
    obtain ⟨k, hk, rfl, rfl, hbw⟩ := hrel
    by_cases hlt : k < st.n
    · obtain ⟨b, o, rfl, hbl, c0, c1, c2, c3⟩ := (HS.out.p.below (hbw.out.mono hB)) k hlt
      have hk0 : (0 : Int) ≤ (k : Int) := by omega
      have hkn : (k : Int) < (st.n : Int) := by omega
      have hb := st.sacks_bd k
      have ew : IntKind.i64.wrap (st.sacks k + min (max (st.P k).s 0) 6) = st.sacks (k + 1) := IntWalk.i64_in _ (by omega)
      have hbo := hbw.out
      have hsw := hbw.out.size
      clear hb
      go_wp2_with fail
      go_roundw
      case rel => exact ⟨k + 1, by omega, by go_num, rfl, Lib.hid (by repeat (first | (with_reducible exact Below.refl _ _) | (with_reducible refine Below.drew ?_) | (with_reducible refine below_drewN ?_ _) | ((with_reducible refine below_alloc ?_ ?_ _); · (first | exact Nat.le_refl _ | omega | (simp; done) | (simp; omega) | (simp at *; omega))) | ((with_reducible refine below_set ?_ ?_ _); · (first | exact Nat.le_refl _ | omega | (simp; done) | (simp; omega) | (simp at *; omega))) | ((with_reducible refine below_via (by with_reducible assumption) ?_ ?_); · (first | exact Nat.le_refl _ | omega | (simp; done) | (simp; omega) | (simp at *; omega)))))⟩
      case measure => simp [intOf]; omega
    · obtain rfl : k = st.n := by omega
      have hge : ¬ (st.n : Int) < (st.n : Int) := by omega
      go_wp2_with fail
      go_ret
      exact ⟨rfl, hbw.out⟩
end Go.Proofs.Ytegmomappbehcaa

set_option linter.unusedSimpArgs false
set_option linter.unusedVariables false
namespace Go.Proofs.Ytegmomappbehcaa
open Go.RowKit Go.Shelf

theorem minN_congr {X Y : Nat → Int} : ∀ {n : Nat}, (∀ k, k ≤ n → X k = Y k) → minN X n = minN Y n
  | 0, h => h 0 (Nat.le_refl _)
  | n + 1, h => by unfold minN; rw [minN_congr (fun k hk => h k (by omega)), h (n + 1) (Nat.le_refl _)]
theorem maxN_congr {X Y : Nat → Int} : ∀ {n : Nat}, (∀ k, k ≤ n → X k = Y k) → maxN X n = maxN Y n
  | 0, h => h 0 (Nat.le_refl _)
  | n + 1, h => by unfold maxN; rw [maxN_congr (fun k hk => h k (by omega)), h (n + 1) (Nat.le_refl _)]
/-- least and greatest of what was met -/
def PayRel (L : List Int) (mb : Bool) (lo hi : Int) : Prop := (mb = false ∧ L = [] ∧ lo = 0 ∧ hi = 0) ∨ (mb = true ∧ ∃ m, L.length = m + 1 ∧ lo = minN (fun j => L.getD j 0) m ∧ hi = maxN (fun j => L.getD j 0) m)
theorem PayRel.first {L : List Int} {lo hi : Int} (h : PayRel L false lo hi) (n : Int) : PayRel (L ++ [n]) true n n := by
  rcases h with ⟨_, rfl, _, _⟩ | ⟨h, _⟩
  · exact .inr ⟨rfl, 0, rfl, rfl, rfl⟩
  · cases h
theorem PayRel.next {L : List Int} {lo hi : Int} (h : PayRel L true lo hi) (n lo' hi' : Int) (e1 : lo' = min lo n) (e2 : hi' = max hi n) : PayRel (L ++ [n]) true lo' hi' := by
  rcases h with ⟨h, _⟩ | ⟨_, m, hm, rfl, rfl⟩
  · cases h
  · have hc : ∀ k, k ≤ m → (L ++ [n]).getD k 0 = L.getD k 0 := fun k hk => by simp [List.getD, List.getElem?_append_left (show k < L.length by omega)]
    have hx : (L ++ [n]).getD (m + 1) 0 = n := by simp [List.getD, ← hm]
    refine .inr ⟨rfl, m + 1, by simp [hm], ?_, ?_⟩
    · rw [e1, minN, minN_congr hc, hx]
    · rw [e2, maxN, maxN_congr hc, hx]
theorem PayRel.none : PayRel [] false 0 0 := .inl ⟨rfl, rfl, rfl, rfl⟩

set_option maxRecDepth 100000 in
set_option maxHeartbeats 8000000 in
theorem rPays_any (st : St) (B : Nat) (pA gA : Option Addr) (pc gc : Nat) (p q : Int) (W : World) (hs : StRow W B st pA pc gA gc) :
    Calls Try.prog 36 #[stV pA st.n pc gA st.m gc st.lots, .int .i64 p, .int .i64 q] W fun e W' => e = .returned (spV (st.paysR p q)) ∧ Below W.heap.size W W' := by
  have HS := Lib.hid hs
  have hB := hs.lt
  have hn1 := hs.n
  clear hs
  go_enter Try.func36, Try.ntmps36
  go_wp2_with fail
  refine (rcheck_any st B pA gA pc gc _ (HS.out.later (by repeat (first | (with_reducible exact Below.refl _ _) | (with_reducible refine Below.drew ?_) | (with_reducible refine below_drewN ?_ _) | ((with_reducible refine below_alloc ?_ ?_ _); · (first | exact Nat.le_refl _ | omega | (simp; done) | (simp; omega) | (simp at *; omega))) | ((with_reducible refine below_set ?_ ?_ _); · (first | exact Nat.le_refl _ | omega | (simp; done) | (simp; omega) | (simp at *; omega))) | ((with_reducible refine below_via (by with_reducible assumption) ?_ ?_); · (first | exact Nat.le_refl _ | omega | (simp; done) | (simp; omega) | (simp at *; omega))))))).mono ?_
  rintro e w1 ⟨rfl, hb1⟩
  have hs1 := hb1.size
  simp only [World.size_alloc] at hs1
  obtain ⟨hc1, hf1⟩ := bcell hb1; have hz1 := hb1.size; (try simp only [World.size_drew, World.heap_drewN, World.size_alloc] at hz1); obtain ⟨⟨a0, a1⟩, f0, f1⟩ : Z2 w1 (W.heap.size + 1) := (by (repeat' refine And.intro ?_ ?_) <;> (repeat (first | (with_reducible assumption) | (simp; done) | (with_reducible refine cell_drew_of ?_) | (with_reducible refine cell_drewN_of ?_) | (with_reducible refine cell_below_of (by with_reducible assumption) ?_) | ((with_reducible refine cell_new_of ?_ ?_) <;> (first | (with_reducible rfl) | (simp; done))) | ((with_reducible refine fro_new_of ?_) <;> (first | (with_reducible rfl) | (simp; done))) | (with_reducible refine cell_alloc_of _ ?_) | (with_reducible refine cell_set_of _ (by (first | exact Nat.le_refl _ | omega | (simp; done) | (simp; omega))) ?_) | (with_reducible refine fro_drew_of ?_) | (with_reducible refine fro_drewN_of ?_) | (with_reducible refine fro_below_of (by with_reducible assumption) (by (first | exact Nat.le_refl _ | omega | (simp; done) | (simp; omega))) ?_) | (with_reducible refine fro_alloc_of _ (by (first | exact Nat.le_refl _ | omega | (simp; done) | (simp; omega))) ?_) | (with_reducible refine fro_set_of _ ?_)))); clear hc1 hf1
  have HA := Lib.hid (show w1.cell? ⟨W.heap.size, 0, none⟩ = some (.slice pA st.n pc) ∧ w1.cell? ⟨W.heap.size, 1, none⟩ = some (.slice gA st.m gc) ∧ w1.cell? ⟨W.heap.size, 2, none⟩ = some (.int .i64 st.lots) from ⟨cell_below_of hb1 (by (repeat' refine And.intro ?_ ?_) <;> (repeat (first | (with_reducible assumption) | (simp; done) | (with_reducible refine cell_drew_of ?_) | (with_reducible refine cell_drewN_of ?_) | (with_reducible refine cell_below_of (by with_reducible assumption) ?_) | ((with_reducible refine cell_new_of ?_ ?_) <;> (first | (with_reducible rfl) | (simp; done))) | ((with_reducible refine fro_new_of ?_) <;> (first | (with_reducible rfl) | (simp; done))) | (with_reducible refine cell_alloc_of _ ?_) | (with_reducible refine cell_set_of _ (by (first | exact Nat.le_refl _ | omega | (simp; done) | (simp; omega))) ?_) | (with_reducible refine fro_drew_of ?_) | (with_reducible refine fro_drewN_of ?_) | (with_reducible refine fro_below_of (by with_reducible assumption) (by (first | exact Nat.le_refl _ | omega | (simp; done) | (simp; omega))) ?_) | (with_reducible refine fro_alloc_of _ (by (first | exact Nat.le_refl _ | omega | (simp; done) | (simp; omega))) ?_) | (with_reducible refine fro_set_of _ ?_)))), cell_below_of hb1 (by (repeat' refine And.intro ?_ ?_) <;> (repeat (first | (with_reducible assumption) | (simp; done) | (with_reducible refine cell_drew_of ?_) | (with_reducible refine cell_drewN_of ?_) | (with_reducible refine cell_below_of (by with_reducible assumption) ?_) | ((with_reducible refine cell_new_of ?_ ?_) <;> (first | (with_reducible rfl) | (simp; done))) | ((with_reducible refine fro_new_of ?_) <;> (first | (with_reducible rfl) | (simp; done))) | (with_reducible refine cell_alloc_of _ ?_) | (with_reducible refine cell_set_of _ (by (first | exact Nat.le_refl _ | omega | (simp; done) | (simp; omega))) ?_) | (with_reducible refine fro_drew_of ?_) | (with_reducible refine fro_drewN_of ?_) | (with_reducible refine fro_below_of (by with_reducible assumption) (by (first | exact Nat.le_refl _ | omega | (simp; done) | (simp; omega))) ?_) | (with_reducible refine fro_alloc_of _ (by (first | exact Nat.le_refl _ | omega | (simp; done) | (simp; omega))) ?_) | (with_reducible refine fro_set_of _ ?_)))), cell_below_of hb1 (by (repeat' refine And.intro ?_ ?_) <;> (repeat (first | (with_reducible assumption) | (simp; done) | (with_reducible refine cell_drew_of ?_) | (with_reducible refine cell_drewN_of ?_) | (with_reducible refine cell_below_of (by with_reducible assumption) ?_) | ((with_reducible refine cell_new_of ?_ ?_) <;> (first | (with_reducible rfl) | (simp; done))) | ((with_reducible refine fro_new_of ?_) <;> (first | (with_reducible rfl) | (simp; done))) | (with_reducible refine cell_alloc_of _ ?_) | (with_reducible refine cell_set_of _ (by (first | exact Nat.le_refl _ | omega | (simp; done) | (simp; omega))) ?_) | (with_reducible refine fro_drew_of ?_) | (with_reducible refine fro_drewN_of ?_) | (with_reducible refine fro_below_of (by with_reducible assumption) (by (first | exact Nat.le_refl _ | omega | (simp; done) | (simp; omega))) ?_) | (with_reducible refine fro_alloc_of _ (by (first | exact Nat.le_refl _ | omega | (simp; done) | (simp; omega))) ?_) | (with_reducible refine fro_set_of _ ?_))))⟩)
  have HB1 : Hid (Below W.heap.size W w1) := Lib.hid (by repeat (first | (with_reducible exact Below.refl _ _) | (with_reducible refine Below.drew ?_) | (with_reducible refine below_drewN ?_ _) | ((with_reducible refine below_alloc ?_ ?_ _); · (first | exact Nat.le_refl _ | omega | (simp; done) | (simp; omega) | (simp at *; omega))) | ((with_reducible refine below_set ?_ ?_ _); · (first | exact Nat.le_refl _ | omega | (simp; done) | (simp; omega) | (simp at *; omega))) | ((with_reducible refine below_via (by with_reducible assumption) ?_ ?_); · (first | exact Nat.le_refl _ | omega | (simp; done) | (simp; omega) | (simp at *; omega)))))
  clear hb1
  by_cases hc : st.check = 0
  · have hok := St.check_ok.1 hc
    have HO := Lib.hid hok
    have HC := Lib.hid hc
    have n1 := hok.n1
    have n4 := hok.n4
    have hcb : (st.check != 0) = false := by simpa using hc
    have ew : IntKind.i64.wrap ((st.n : Int) - 1) = (st.n : Int) - 1 := IntWalk.i64_in _ (by omega)
    obtain ⟨s0, s1, s2⟩ := HA.out
    have hyo := HB1.out
    clear hok hc
    cases hin : inB p 0 (st.n - 1) with
    | false =>
      have HR : Hid (st.paysR p q = (0, 0, 2)) := Lib.hid (by unfold St.paysR; rw [if_neg (by simp [HC.out]), if_pos hin])
      go_wp2_with (go_at_call 82; refine (off_any _ _ _ _).mono ?_; rintro e w' ⟨rfl, rfl⟩)
      exact bodyPost_ret (v := spV (0, 0, 2)) (by simp [results, Try.results36, go_sem, a0, a1]) rfl ⟨by rw [HR.out], (by repeat (first | (with_reducible exact Below.refl _ _) | (with_reducible refine Below.drew ?_) | (with_reducible refine below_drewN ?_ _) | ((with_reducible refine below_alloc ?_ ?_ _); · (first | exact Nat.le_refl _ | omega | (simp; done) | (simp; omega) | (simp at *; omega))) | ((with_reducible refine below_set ?_ ?_ _); · (first | exact Nat.le_refl _ | omega | (simp; done) | (simp; omega) | (simp at *; omega))) | ((with_reducible refine below_via (by with_reducible assumption) ?_ ?_); · (first | exact Nat.le_refl _ | omega | (simp; done) | (simp; omega) | (simp at *; omega)))))⟩
    | true =>
      have hr : 0 ≤ p ∧ p ≤ (st.n : Int) - 1 := by simpa [inB] using hin
      obtain ⟨k, rfl⟩ := Int.eq_ofNat_of_zero_le hr.1
      have HIN := Lib.hid hin
      have hk : k < st.n := by omega
      have hk0 : (0 : Int) ≤ (k : Int) := by omega
      have hk1 : (k : Int) < (st.n : Int) := by omega
      obtain ⟨b, o, rfl, hb', c0, c1, c2, c3⟩ := (HS.out.p.below (hyo.mono hB)) k hk
      have hrg := Lib.hid (HO.out.pk k hk)
      have h1 := hrg.out.1
      have h3 := hrg.out.2.2.1
      have eS : IntKind.i64.wrap ((st.P k).s - (st.P k).o) = (st.P k).s - (st.P k).o := IntWalk.i64_in _ (by omega)
      clear hr
      cases j1 : inB q 0 ((st.P k).s - (st.P k).o) with
      | false =>
        have HR : Hid (st.paysR k q = (0, 0, 4)) := Lib.hid (by unfold St.paysR; rw [if_neg (by simp [HC.out]), if_neg (by rw [HIN.out]; decide), Int.toNat_natCast, if_pos j1])
        go_wp2_with (go_at_call 82; refine (off_any _ _ _ _).mono ?_; rintro e w' ⟨rfl, rfl⟩)
        refine region_qbw (by kernel_rfl) (by kernel_rfl) ?_
        have x0 := cell_regrown s0
        have x1 := cell_regrown c0
        have x2 := cell_regrown c2
        repeat (first | go_big_quiet_step ((go_at_call 82; exact Calls.regrown_of ((off_any _ _ _ _).mono (fun _ _ h => ⟨h.1, h.2 ▸ Below.refl _ _⟩)))) | quiet_step ((go_at_call 82; exact Calls.regrown_of ((off_any _ _ _ _).mono (fun _ _ h => ⟨h.1, h.2 ▸ Below.refl _ _⟩)))))
        refine wpQuiet_nil ?_; intro wq hbq
        obtain ⟨⟨a0, a1⟩, f0, f1⟩ := (show Z2 w1 (W.heap.size + 1) from ⟨⟨a0, a1⟩, f0, f1⟩).later hbq
        have hyq := hyo.trans (hbq.mono (by omega))
        clear c0 c1 c2 c3 s0 x0 x1 x2
        rw [j1]
        go_wp2_with fail
        exact bodyPost_ret (v := spV (0, 0, 4)) (by simp [results, Try.results36, go_sem, a0, a1]) rfl ⟨by rw [HR.out], (by repeat (first | (with_reducible exact Below.refl _ _) | (with_reducible refine Below.drew ?_) | (with_reducible refine below_drewN ?_ _) | ((with_reducible refine below_alloc ?_ ?_ _); · (first | exact Nat.le_refl _ | omega | (simp; done) | (simp; omega) | (simp at *; omega))) | ((with_reducible refine below_set ?_ ?_ _); · (first | exact Nat.le_refl _ | omega | (simp; done) | (simp; omega) | (simp at *; omega))) | ((with_reducible refine below_via (by with_reducible assumption) ?_ ?_); · (first | exact Nat.le_refl _ | omega | (simp; done) | (simp; omega) | (simp at *; omega)))))⟩
      | true =>
        have hq : 0 ≤ q ∧ q ≤ (st.P k).s - (st.P k).o := by simpa [inB] using j1
        obtain ⟨m, rfl⟩ := Int.eq_ofNat_of_zero_le hq.1
        have HR0 : Hid (st.paysR k m = (minN (st.payX k m) ((st.payAll k m (m + 1)).length - 1), maxN (st.payX k m) ((st.payAll k m (m + 1)).length - 1), 0)) := Lib.hid (by unfold St.paysR; rw [if_neg (by simp [HC.out]), if_neg (by rw [HIN.out]; decide), Int.toNat_natCast, Int.toNat_natCast, if_neg (by rw [j1]; decide)])
        have HPOS := Lib.hid (St.payAll_pos HO.out hk (by omega) hq.2 m)
        have HQ := Lib.hid hq
        have HJ := Lib.hid j1
        have hm6 : m ≤ 6 := by omega
        go_wp2_with (go_at_call 82; refine (off_any _ _ _ _).mono ?_; rintro e w' ⟨rfl, rfl⟩)
        refine region_qbw (by kernel_rfl) (by kernel_rfl) ?_
        have x0 := cell_regrown s0
        have x1 := cell_regrown c0
        have x2 := cell_regrown c2
        repeat (first | go_big_quiet_step ((go_at_call 82; exact Calls.regrown_of ((off_any _ _ _ _).mono (fun _ _ h => ⟨h.1, h.2 ▸ Below.refl _ _⟩)))) | quiet_step ((go_at_call 82; exact Calls.regrown_of ((off_any _ _ _ _).mono (fun _ _ h => ⟨h.1, h.2 ▸ Below.refl _ _⟩)))))
        refine wpQuiet_nil ?_; intro wq hbq
        have HZ := Lib.hid ((show Z2 w1 (W.heap.size + 1) from ⟨⟨a0, a1⟩, f0, f1⟩).later hbq)
        have HBQ := Lib.hid (hyo.trans (hbq.mono (by omega)))
        have HAQ := Lib.hid (show _ ∧ _ ∧ _ from ⟨cell_below_of hbq HA.out.1, cell_below_of hbq HA.out.2.1, cell_below_of hbq HA.out.2.2⟩)
        have hsq : W.heap.size + 1 < wq.heap.size := by have := hbq.size; omega
        clear c0 c1 c2 c3 s0 s1 s2 x0 x1 x2 a0 a1 f0 f1 hyo hbq h1 h3 hq
        rw [j1]
        go_wp2_with fail
        go_loopw [10, 11] (fun v i wr => ∃ (j : Nat) (mb : Bool) (lo hi : Int), j ≤ m + 1 ∧ i = .int .i64 j ∧ v = .bool mb ∧ Hid (PayRel (st.payAll k m j) mb lo hi) ∧ Hid (N2At wr wq.heap.size lo hi) ∧ Hid (Below wq.heap.size wq wr) ∧ wq.heap.size < wr.heap.size) (fun _ i _ => m + 1 - (intOf i).toNat)
        case atStart => exact ⟨0, false, 0, 0, by omega, rfl, rfl, Lib.hid PayRel.none, Lib.hid (by (repeat' refine And.intro ?_ ?_) <;> (repeat (first | (with_reducible assumption) | (simp; done) | (with_reducible refine cell_drew_of ?_) | (with_reducible refine cell_drewN_of ?_) | (with_reducible refine cell_below_of (by with_reducible assumption) ?_) | ((with_reducible refine cell_new_of ?_ ?_) <;> (first | (with_reducible rfl) | (simp; done))) | ((with_reducible refine fro_new_of ?_) <;> (first | (with_reducible rfl) | (simp; done))) | (with_reducible refine cell_alloc_of _ ?_) | (with_reducible refine cell_set_of _ (by (first | exact Nat.le_refl _ | omega | (simp; done) | (simp; omega))) ?_) | (with_reducible refine fro_drew_of ?_) | (with_reducible refine fro_drewN_of ?_) | (with_reducible refine fro_below_of (by with_reducible assumption) (by (first | exact Nat.le_refl _ | omega | (simp; done) | (simp; omega))) ?_) | (with_reducible refine fro_alloc_of _ (by (first | exact Nat.le_refl _ | omega | (simp; done) | (simp; omega))) ?_) | (with_reducible refine fro_set_of _ ?_)))), Lib.hid (by repeat (first | (with_reducible exact Below.refl _ _) | (with_reducible refine Below.drew ?_) | (with_reducible refine below_drewN ?_ _) | ((with_reducible refine below_alloc ?_ ?_ _); · (first | exact Nat.le_refl _ | omega | (simp; done) | (simp; omega) | (simp at *; omega))) | ((with_reducible refine below_set ?_ ?_ _); · (first | exact Nat.le_refl _ | omega | (simp; done) | (simp; omega) | (simp at *; omega))) | ((with_reducible refine below_via (by with_reducible assumption) ?_ ?_); · (first | exact Nat.le_refl _ | omega | (simp; done) | (simp; omega) | (simp at *; omega))))), by simp⟩
        case round =>
          obtain ⟨j, mb, lo, hi, hj, rfl, rfl, hrel, hn2, hbw, hsw⟩ := hrel
          have HBW := Lib.hid (HBQ.out.trans (hbw.out.mono (by omega)))
          by_cases hlt : j < m + 1
          · have hle : (j : Int) ≤ (m : Int) := by omega
            have s0 := cell_same (hbw.out.block _ (by omega)) HAQ.out.1
            have s1 := cell_same (hbw.out.block _ (by omega)) HAQ.out.2.1
            have s2 := cell_same (hbw.out.block _ (by omega)) HAQ.out.2.2
            have HE : Hid (st.openErr k m j = (st.more k m j).check) := Lib.hid (by
              unfold St.openErr
              rw [if_neg (by simp [HC.out]), if_neg (by rw [HIN.out]; decide), if_neg]
              · rfl
              · rw [show ((k : Int)).toNat = k from rfl, HJ.out]
                simp [inB]; omega)
            go_wp2_with fail
            refine (rOpen_any st B (some ⟨b, o, none⟩) gA pc gc k m j _ (HS.out.later (HBW.out.mono hB))).mono ?_
            rintro e w2 ⟨hb2, hpo⟩
            have HN2 := Lib.hid (hn2.out.later hb2)
            have HB2 := Lib.hid (hbw.out.trans (hb2.mono (by omega)))
            have hs2 := hb2.size
            have hn3 : (st.more k m j).n = st.n := rfl
            have hm3 : (st.more k m j).m = st.m := rfl
            have hl3 : (st.more k m j).lots = st.lots := rfl
            clear hb2 s0 s1 s2
            rw [HE.out] at hpo
            rcases hpo with ⟨h0, pA', pc', gA', gc', rfl, hop, hog, hpc', hgc'⟩ | ⟨h0, rfl⟩
            · have HRW := Lib.hid (show StRow w2 w2.heap.size (st.more k m j) pA' pc' gA' gc' from ⟨Nat.le_refl _, hop.row, hog.row, by rw [hn3]; omega, by rw [hm3]; have := HO.out.m4; omega, hpc', hgc'⟩)
              have HPA : Hid (st.payAll k m (j + 1) = st.payAll k m j ++ [(st.more k m j).top]) := Lib.hid (by show _ ++ _ = _; rw [if_pos h0])
              have H0 := Lib.hid h0
              clear hop hog h0 hn3 hm3 hl3
              go_wp2_with fail
              refine (rBest_any (st.more k m j) _ pA' gA' pc' gc' _ (HRW.out.later (by repeat (first | (with_reducible exact Below.refl _ _) | (with_reducible refine Below.drew ?_) | (with_reducible refine below_drewN ?_ _) | ((with_reducible refine below_alloc ?_ ?_ _); · (first | exact Nat.le_refl _ | omega | (simp; done) | (simp; omega) | (simp at *; omega))) | ((with_reducible refine below_set ?_ ?_ _); · (first | exact Nat.le_refl _ | omega | (simp; done) | (simp; omega) | (simp at *; omega))) | ((with_reducible refine below_via (by with_reducible assumption) ?_ ?_); · (first | exact Nat.le_refl _ | omega | (simp; done) | (simp; omega) | (simp at *; omega))))))).mono ?_
              rintro e w3 ⟨rfl, hb3⟩
              have HN3 := Lib.hid ((HN2.out.later (show Below w2.heap.size w2 _ from (by repeat (first | (with_reducible exact Below.refl _ _) | (with_reducible refine Below.drew ?_) | (with_reducible refine below_drewN ?_ _) | ((with_reducible refine below_alloc ?_ ?_ _); · (first | exact Nat.le_refl _ | omega | (simp; done) | (simp; omega) | (simp at *; omega))) | ((with_reducible refine below_set ?_ ?_ _); · (first | exact Nat.le_refl _ | omega | (simp; done) | (simp; omega) | (simp at *; omega))) | ((with_reducible refine below_via (by with_reducible assumption) ?_ ?_); · (first | exact Nat.le_refl _ | omega | (simp; done) | (simp; omega) | (simp at *; omega))))))).later hb3)
              have HB3 := Lib.hid ((HB2.out.trans ((show Below w2.heap.size w2 _ from (by repeat (first | (with_reducible exact Below.refl _ _) | (with_reducible refine Below.drew ?_) | (with_reducible refine below_drewN ?_ _) | ((with_reducible refine below_alloc ?_ ?_ _); · (first | exact Nat.le_refl _ | omega | (simp; done) | (simp; omega) | (simp at *; omega))) | ((with_reducible refine below_set ?_ ?_ _); · (first | exact Nat.le_refl _ | omega | (simp; done) | (simp; omega) | (simp at *; omega))) | ((with_reducible refine below_via (by with_reducible assumption) ?_ ?_); · (first | exact Nat.le_refl _ | omega | (simp; done) | (simp; omega) | (simp at *; omega)))))).mono (by omega))).trans (hb3.mono (by simp; omega)))
              have hs3 := hb3.size
              simp only [World.size_alloc] at hs3
              have et : (if (st.more k m j).check ≠ 0 then 0 else ((st.more k m j).choose (st.more k m j).lots.toNat (st.more k m j).all).2) = (st.more k m j).top := by rw [if_neg (by simp [H0.out])]; rfl
              rw [et]
              clear hb3 et
              generalize (st.more k m j).top = t at HPA ⊢
              obtain ⟨⟨o0, o1⟩, fo0, fo1⟩ := HN3.out
              cases mb with
              | false =>
                have HP := Lib.hid (hrel.out.first t)
                have HNE := Lib.hid ((HN3.out.set0 t).set1 t)
                go_wp2_with fail
                (refine ⟨?_, ?measure⟩; (repeat apply Exists.intro); refine ⟨?rel, rfl⟩)
                case rel => exact ⟨j + 1, true, t, t, by omega, by go_num, rfl, Lib.hid (by rw [HPA.out]; exact HP.out), HNE, Lib.hid ((HB3.out.setCell (by simp) _).setCell (by simp) _), by simp [World.setCell]; omega⟩
                case measure => simp [intOf]; omega
              | true =>
                by_cases h1 : t < lo
                · by_cases h2 : hi < t
                  · have HP := Lib.hid (hrel.out.next t t t (by omega) (by omega))
                    have HNE := Lib.hid ((HN3.out.set0 t).set1 t)
                    go_wp2_with fail
                    (refine ⟨?_, ?measure⟩; (repeat apply Exists.intro); refine ⟨?rel, rfl⟩)
                    case rel => exact ⟨j + 1, true, t, t, by omega, by go_num, rfl, Lib.hid (by rw [HPA.out]; exact HP.out), HNE, Lib.hid ((HB3.out.setCell (by simp) _).setCell (by simp) _), by simp [World.setCell]; omega⟩
                    case measure => simp [intOf]; omega
                  · have HP := Lib.hid (hrel.out.next t t hi (by omega) (by omega))
                    have HNE := Lib.hid (HN3.out.set0 t)
                    go_wp2_with fail
                    (refine ⟨?_, ?measure⟩; (repeat apply Exists.intro); refine ⟨?rel, rfl⟩)
                    case rel => exact ⟨j + 1, true, t, hi, by omega, by go_num, rfl, Lib.hid (by rw [HPA.out]; exact HP.out), HNE, Lib.hid (HB3.out.setCell (by simp) _), by simp [World.setCell]; omega⟩
                    case measure => simp [intOf]; omega
                · by_cases h2 : hi < t
                  · have HP := Lib.hid (hrel.out.next t lo t (by omega) (by omega))
                    have HNE := Lib.hid (HN3.out.set1 t)
                    go_wp2_with fail
                    (refine ⟨?_, ?measure⟩; (repeat apply Exists.intro); refine ⟨?rel, rfl⟩)
                    case rel => exact ⟨j + 1, true, lo, t, by omega, by go_num, rfl, Lib.hid (by rw [HPA.out]; exact HP.out), HNE, Lib.hid (HB3.out.setCell (by simp) _), by simp [World.setCell]; omega⟩
                    case measure => simp [intOf]; omega
                  · have HP := Lib.hid (hrel.out.next t lo hi (by omega) (by omega))
                    have HNE := HN3
                    go_wp2_with fail
                    (refine ⟨?_, ?measure⟩; (repeat apply Exists.intro); refine ⟨?rel, rfl⟩)
                    case rel => exact ⟨j + 1, true, lo, hi, by omega, by go_num, rfl, Lib.hid (by rw [HPA.out]; exact HP.out), HNE, HB3, by omega⟩
                    case measure => simp [intOf]; omega
            · have hnb : ((st.more k m j).check != 0) = true := by simpa using h0
              have HPA : Hid (st.payAll k m (j + 1) = st.payAll k m j) := Lib.hid (by show _ ++ _ = _; rw [if_neg h0, List.append_nil])
              have HNE := Lib.hid (HN2.out.later (show Below w2.heap.size w2 (w2.alloc (.cells #[.slice none 0 0, .slice none 0 0, .int .i64 0] 34)) from (by repeat (first | (with_reducible exact Below.refl _ _) | (with_reducible refine Below.drew ?_) | (with_reducible refine below_drewN ?_ _) | ((with_reducible refine below_alloc ?_ ?_ _); · (first | exact Nat.le_refl _ | omega | (simp; done) | (simp; omega) | (simp at *; omega))) | ((with_reducible refine below_set ?_ ?_ _); · (first | exact Nat.le_refl _ | omega | (simp; done) | (simp; omega) | (simp at *; omega))) | ((with_reducible refine below_via (by with_reducible assumption) ?_ ?_); · (first | exact Nat.le_refl _ | omega | (simp; done) | (simp; omega) | (simp at *; omega)))))))
              have HBE := Lib.hid (HB2.out.trans ((show Below w2.heap.size w2 (w2.alloc (.cells #[.slice none 0 0, .slice none 0 0, .int .i64 0] 34)) from (by repeat (first | (with_reducible exact Below.refl _ _) | (with_reducible refine Below.drew ?_) | (with_reducible refine below_drewN ?_ _) | ((with_reducible refine below_alloc ?_ ?_ _); · (first | exact Nat.le_refl _ | omega | (simp; done) | (simp; omega) | (simp at *; omega))) | ((with_reducible refine below_set ?_ ?_ _); · (first | exact Nat.le_refl _ | omega | (simp; done) | (simp; omega) | (simp at *; omega))) | ((with_reducible refine below_via (by with_reducible assumption) ?_ ?_); · (first | exact Nat.le_refl _ | omega | (simp; done) | (simp; omega) | (simp at *; omega)))))).mono (by omega)))
              clear h0 hn3 hm3 hl3
              unfold emptyS
              go_wp2_with fail
              (refine ⟨?_, ?measure⟩; (repeat apply Exists.intro); refine ⟨?rel, rfl⟩)
              case rel => exact ⟨j + 1, mb, lo, hi, by omega, by go_num, rfl, Lib.hid (by rw [HPA.out]; exact hrel.out), HNE, HBE, by simp; omega⟩
              case measure => simp [intOf]; omega
          · obtain rfl : j = m + 1 := by omega
            have hge : ¬ ((m + 1 : Nat) : Int) ≤ (m : Int) := by omega
            obtain ⟨⟨o0, o1⟩, fo0, fo1⟩ := hn2.out
            obtain ⟨⟨a0, a1⟩, f0, f1⟩ := HZ.out.same (hbw.out.block _ hsq)
            have HR : Hid (st.paysR k m = (lo, hi, 0)) := Lib.hid (by
              rw [HR0.out]
              rcases hrel.out with ⟨_, h, _⟩ | ⟨_, n, hn, rfl, rfl⟩
              · have := HPOS.out; rw [h] at this; simp at this
              · rw [hn]; rfl)
            have hyo := HBW.out
            go_wp2_with fail
            exact bodyPost_ret (v := spV (lo, hi, 0)) (by simp [results, Try.results36, go_sem, a0, a1]) rfl ⟨by rw [HR.out], (by repeat (first | (with_reducible exact Below.refl _ _) | (with_reducible refine Below.drew ?_) | (with_reducible refine below_drewN ?_ _) | ((with_reducible refine below_alloc ?_ ?_ _); · (first | exact Nat.le_refl _ | omega | (simp; done) | (simp; omega) | (simp at *; omega))) | ((with_reducible refine below_set ?_ ?_ _); · (first | exact Nat.le_refl _ | omega | (simp; done) | (simp; omega) | (simp at *; omega))) | ((with_reducible refine below_via (by with_reducible assumption) ?_ ?_); · (first | exact Nat.le_refl _ | omega | (simp; done) | (simp; omega) | (simp at *; omega)))))⟩
  · have hnb : (st.check != 0) = true := by simpa using hc
    have HR : Hid (st.paysR p q = (0, 0, st.check)) := Lib.hid (by unfold St.paysR; rw [if_pos hc])
    have hyo := HB1.out
    clear hc
    go_wp2_with fail
    exact bodyPost_ret (v := spV (0, 0, st.check)) (by simp [results, Try.results36, go_sem, a0, a1]) rfl ⟨by rw [HR.out], (by repeat (first | (with_reducible exact Below.refl _ _) | (with_reducible refine Below.drew ?_) | (with_reducible refine below_drewN ?_ _) | ((with_reducible refine below_alloc ?_ ?_ _); · (first | exact Nat.le_refl _ | omega | (simp; done) | (simp; omega) | (simp at *; omega))) | ((with_reducible refine below_set ?_ ?_ _); · (first | exact Nat.le_refl _ | omega | (simp; done) | (simp; omega) | (simp at *; omega))) | ((with_reducible refine below_via (by with_reducible assumption) ?_ ?_); · (first | exact Nat.le_refl _ | omega | (simp; done) | (simp; omega) | (simp at *; omega)))))⟩
end Go.Proofs.Ytegmomappbehcaa

set_option linter.unusedSimpArgs false
set_option linter.unusedVariables false
namespace Go.Proofs.Ytegmomappbehcaa
open Go.RowKit Go.Shelf

set_option maxRecDepth 100000 in
set_option maxHeartbeats 0 in
theorem pays_in (st : St) (B : Nat) (pA gA : Option Addr) (pc gc : Nat) (p q : Int) (W : World) (hs : StRow W B st pA pc gA gc) (h1 : st.n ≤ 6) (h2 : st.m ≤ 6) (hok : ¬ (6 < st.sacks st.n ∧ st.n ≤ 4)) :
    Calls Try.prog 5 #[stV pA st.n pc gA st.m gc st.lots, .int .i64 p, .int .i64 q] W fun e W' => e = .returned (.bool true) ∧ Below W.heap.size W W' := by
  have HS := Lib.hid hs
  have hB := hs.lt
  clear hs
  have hlong : (decide (6 < st.n) || decide (6 < st.m)) = false := by simp; omega
  have hgo : (6 < st.sacks st.n ∧ ¬ (st.n : Int) ≤ 4) ∨ ¬ 6 < st.sacks st.n := by omega
  have HG := Lib.hid hgo
  clear hok hgo
  go_enter Try.func5, Try.ntmps5
  go_wp2_with fail
  refine (long_any pA gA st.n pc st.m gc st.lots _).mono ?_
  rintro e w1 ⟨rfl, hb1⟩
  rw [hlong]
  have HB1 := Lib.hid (show Below W.heap.size W w1 from (by repeat (first | (with_reducible exact Below.refl _ _) | (with_reducible refine Below.drew ?_) | (with_reducible refine below_drewN ?_ _) | ((with_reducible refine below_alloc ?_ ?_ _); · (first | exact Nat.le_refl _ | omega | (simp; done) | (simp; omega) | (simp at *; omega))) | ((with_reducible refine below_set ?_ ?_ _); · (first | exact Nat.le_refl _ | omega | (simp; done) | (simp; omega) | (simp at *; omega))) | ((with_reducible refine below_via (by with_reducible assumption) ?_ ?_); · (first | exact Nat.le_refl _ | omega | (simp; done) | (simp; omega) | (simp at *; omega))))))
  have hs1 := hb1.size
  simp only [World.size_alloc] at hs1
  have a0 : w1.cell? ⟨W.heap.size, 0, none⟩ = some (.slice pA st.n pc) := cell_below_of hb1 (by (repeat' refine And.intro ?_ ?_) <;> (repeat (first | (with_reducible assumption) | (simp; done) | (with_reducible refine cell_drew_of ?_) | (with_reducible refine cell_drewN_of ?_) | (with_reducible refine cell_below_of (by with_reducible assumption) ?_) | ((with_reducible refine cell_new_of ?_ ?_) <;> (first | (with_reducible rfl) | (simp; done))) | ((with_reducible refine fro_new_of ?_) <;> (first | (with_reducible rfl) | (simp; done))) | (with_reducible refine cell_alloc_of _ ?_) | (with_reducible refine cell_set_of _ (by (first | exact Nat.le_refl _ | omega | (simp; done) | (simp; omega))) ?_) | (with_reducible refine fro_drew_of ?_) | (with_reducible refine fro_drewN_of ?_) | (with_reducible refine fro_below_of (by with_reducible assumption) (by (first | exact Nat.le_refl _ | omega | (simp; done) | (simp; omega))) ?_) | (with_reducible refine fro_alloc_of _ (by (first | exact Nat.le_refl _ | omega | (simp; done) | (simp; omega))) ?_) | (with_reducible refine fro_set_of _ ?_))))
  have a1 : w1.cell? ⟨W.heap.size, 1, none⟩ = some (.slice gA st.m gc) := cell_below_of hb1 (by (repeat' refine And.intro ?_ ?_) <;> (repeat (first | (with_reducible assumption) | (simp; done) | (with_reducible refine cell_drew_of ?_) | (with_reducible refine cell_drewN_of ?_) | (with_reducible refine cell_below_of (by with_reducible assumption) ?_) | ((with_reducible refine cell_new_of ?_ ?_) <;> (first | (with_reducible rfl) | (simp; done))) | ((with_reducible refine fro_new_of ?_) <;> (first | (with_reducible rfl) | (simp; done))) | (with_reducible refine cell_alloc_of _ ?_) | (with_reducible refine cell_set_of _ (by (first | exact Nat.le_refl _ | omega | (simp; done) | (simp; omega))) ?_) | (with_reducible refine fro_drew_of ?_) | (with_reducible refine fro_drewN_of ?_) | (with_reducible refine fro_below_of (by with_reducible assumption) (by (first | exact Nat.le_refl _ | omega | (simp; done) | (simp; omega))) ?_) | (with_reducible refine fro_alloc_of _ (by (first | exact Nat.le_refl _ | omega | (simp; done) | (simp; omega))) ?_) | (with_reducible refine fro_set_of _ ?_))))
  have a2 : w1.cell? ⟨W.heap.size, 2, none⟩ = some (.int .i64 st.lots) := cell_below_of hb1 (by (repeat' refine And.intro ?_ ?_) <;> (repeat (first | (with_reducible assumption) | (simp; done) | (with_reducible refine cell_drew_of ?_) | (with_reducible refine cell_drewN_of ?_) | (with_reducible refine cell_below_of (by with_reducible assumption) ?_) | ((with_reducible refine cell_new_of ?_ ?_) <;> (first | (with_reducible rfl) | (simp; done))) | ((with_reducible refine fro_new_of ?_) <;> (first | (with_reducible rfl) | (simp; done))) | (with_reducible refine cell_alloc_of _ ?_) | (with_reducible refine cell_set_of _ (by (first | exact Nat.le_refl _ | omega | (simp; done) | (simp; omega))) ?_) | (with_reducible refine fro_drew_of ?_) | (with_reducible refine fro_drewN_of ?_) | (with_reducible refine fro_below_of (by with_reducible assumption) (by (first | exact Nat.le_refl _ | omega | (simp; done) | (simp; omega))) ?_) | (with_reducible refine fro_alloc_of _ (by (first | exact Nat.le_refl _ | omega | (simp; done) | (simp; omega))) ?_) | (with_reducible refine fro_set_of _ ?_))))
  have HA := Lib.hid (show _ ∧ _ ∧ _ from ⟨a0, a1, a2⟩)
  clear hb1
  go_wp2_with fail
  refine (sacks_any st B pA gA pc gc _ (HS.out.later (HB1.out.mono hB))).mono ?_
  rintro e w2 ⟨rfl, hb⟩
  have HB2 := Lib.hid (HB1.out.trans (hb.mono HB1.out.size))
  have HA2 := Lib.hid (show _ ∧ _ ∧ _ from ⟨cell_below_of hb HA.out.1, cell_below_of hb HA.out.2.1, cell_below_of hb HA.out.2.2⟩)
  have hs2 : W.heap.size < w2.heap.size := by have := hb.size; omega
  clear hb a0 a1 a2
  obtain ⟨a0, a1, a2⟩ := HA2.out
  have fin : ∀ (P : Prop), ((6 < st.sacks st.n ∧ decide ((st.n : Int) ≤ 4) = false) → P) → (¬ 6 < st.sacks st.n → P) → P := fun P f g => HG.out.elim (fun h => f ⟨h.1, by simp; omega⟩) (fun h => g (by omega))
  refine fin _ (fun hh => ?_) (fun hh => ?_)
  all_goals
    clear fin
    (try obtain ⟨hh, hh2⟩ := hh)
    go_wp2_with fail
    refine (own_any st B pA gA pc gc _ (HS.out.later (HB2.out.mono hB))).mono ?_
    rintro e w3 ⟨hb, pA1, pc1, gA1, gc1, rfl, hop, hog, hpc1, hgc1, _⟩
    have HB3 := Lib.hid (HB2.out.trans (hb.mono HB2.out.size))
    have HA3 := Lib.hid (show _ ∧ _ ∧ _ from ⟨cell_below_of hb HA2.out.1, cell_below_of hb HA2.out.2.1, cell_below_of hb HA2.out.2.2⟩)
    have HR1 := Lib.hid (StRow.of_own hop hog (by omega) (by omega) hpc1 hgc1)
    have hs3 : W.heap.size < w3.heap.size := by have := hb.size; omega
    clear hb hop hog a0 a1 a2
    go_upto_region 4 with fail
    have hba : Below w3.heap.size w3 (w3.alloc (.cells #[.slice pA1 st.n pc1, .slice gA1 st.m gc1, .int .i64 st.lots] 25)) := (by repeat (first | (with_reducible exact Below.refl _ _) | (with_reducible refine Below.drew ?_) | (with_reducible refine below_drewN ?_ _) | ((with_reducible refine below_alloc ?_ ?_ _); · (first | exact Nat.le_refl _ | omega | (simp; done) | (simp; omega) | (simp at *; omega))) | ((with_reducible refine below_set ?_ ?_ _); · (first | exact Nat.le_refl _ | omega | (simp; done) | (simp; omega) | (simp at *; omega))) | ((with_reducible refine below_via (by with_reducible assumption) ?_ ?_); · (first | exact Nat.le_refl _ | omega | (simp; done) | (simp; omega) | (simp at *; omega)))))
    refine wp_world (fun W1 => StAt W1 w3.heap.size pA1 st.n pc1 gA1 st.m gc1 st.lots ∧ StAt W1 W.heap.size pA st.n pc gA st.m gc st.lots ∧ StRow W1 W1.heap.size st pA1 pc1 gA1 gc1 ∧ Below W.heap.size W W1) ⟨(by (repeat' refine And.intro ?_ ?_) <;> (repeat (first | (with_reducible assumption) | (simp; done) | (with_reducible refine cell_drew_of ?_) | (with_reducible refine cell_drewN_of ?_) | (with_reducible refine cell_below_of (by with_reducible assumption) ?_) | ((with_reducible refine cell_new_of ?_ ?_) <;> (first | (with_reducible rfl) | (simp; done))) | ((with_reducible refine fro_new_of ?_) <;> (first | (with_reducible rfl) | (simp; done))) | (with_reducible refine cell_alloc_of _ ?_) | (with_reducible refine cell_set_of _ (by (first | exact Nat.le_refl _ | omega | (simp; done) | (simp; omega))) ?_) | (with_reducible refine fro_drew_of ?_) | (with_reducible refine fro_drewN_of ?_) | (with_reducible refine fro_below_of (by with_reducible assumption) (by (first | exact Nat.le_refl _ | omega | (simp; done) | (simp; omega))) ?_) | (with_reducible refine fro_alloc_of _ (by (first | exact Nat.le_refl _ | omega | (simp; done) | (simp; omega))) ?_) | (with_reducible refine fro_set_of _ ?_)))), ⟨cell_below_of hba HA3.out.1, cell_below_of hba HA3.out.2.1, cell_below_of hba HA3.out.2.2⟩, HR1.out.later2 hba, HB3.out.trans (hba.mono HB3.out.size)⟩ ?_
    clear hba HA3 HR1 HB3
    rintro w4 ⟨o, t, hr, hb4⟩
    have HO4 := Lib.hid o
    have HT4 := Lib.hid t
    have HR4 := Lib.hid hr
    have HB4 := Lib.hid hb4
    clear o t hr hb4
    obtain ⟨o0, o1, o2⟩ := HO4.out
    obtain ⟨t0, t1, t2⟩ := HT4.out
    go_wp2_with fail
    refine (Pays_any st _ pA1 gA1 pc1 gc1 p q _ HR4.out).mono ?_
    rintro e w5 ⟨rfl, hb⟩
    have HO5 := Lib.hid (HO4.out.later hb)
    have HT5 := Lib.hid (HT4.out.later hb)
    have HR5 := Lib.hid (HR4.out.later2 hb)
    have HB5 := Lib.hid (HB4.out.trans (hb.mono HB4.out.size))
    clear hb o0 o1 o2 t0 t1 t2 HO4 HT4 HR4 HB4
    obtain ⟨lr, hlr⟩ : ∃ lr, st.paysR p q = lr := ⟨_, rfl⟩
    have HLR := Lib.hid hlr
    rw [hlr]
    clear hlr
    obtain ⟨o0, o1, o2⟩ := HO5.out
    obtain ⟨t0, t1, t2⟩ := HT5.out
    go_wp2_with fail
    have hba : Below w5.heap.size w5 (w5.alloc (.cells #[.int .i64 lr.1, .int .i64 lr.2.1] 50)) := (by repeat (first | (with_reducible exact Below.refl _ _) | (with_reducible refine Below.drew ?_) | (with_reducible refine below_drewN ?_ _) | ((with_reducible refine below_alloc ?_ ?_ _); · (first | exact Nat.le_refl _ | omega | (simp; done) | (simp; omega) | (simp at *; omega))) | ((with_reducible refine below_set ?_ ?_ _); · (first | exact Nat.le_refl _ | omega | (simp; done) | (simp; omega) | (simp at *; omega))) | ((with_reducible refine below_via (by with_reducible assumption) ?_ ?_); · (first | exact Nat.le_refl _ | omega | (simp; done) | (simp; omega) | (simp at *; omega)))))
    have HF5 := Lib.hid (show N2At (w5.alloc (.cells #[.int .i64 lr.1, .int .i64 lr.2.1] 50)) w5.heap.size lr.1 lr.2.1 from (by (repeat' refine And.intro ?_ ?_) <;> (repeat (first | (with_reducible assumption) | (simp; done) | (with_reducible refine cell_drew_of ?_) | (with_reducible refine cell_drewN_of ?_) | (with_reducible refine cell_below_of (by with_reducible assumption) ?_) | ((with_reducible refine cell_new_of ?_ ?_) <;> (first | (with_reducible rfl) | (simp; done))) | ((with_reducible refine fro_new_of ?_) <;> (first | (with_reducible rfl) | (simp; done))) | (with_reducible refine cell_alloc_of _ ?_) | (with_reducible refine cell_set_of _ (by (first | exact Nat.le_refl _ | omega | (simp; done) | (simp; omega))) ?_) | (with_reducible refine fro_drew_of ?_) | (with_reducible refine fro_drewN_of ?_) | (with_reducible refine fro_below_of (by with_reducible assumption) (by (first | exact Nat.le_refl _ | omega | (simp; done) | (simp; omega))) ?_) | (with_reducible refine fro_alloc_of _ (by (first | exact Nat.le_refl _ | omega | (simp; done) | (simp; omega))) ?_) | (with_reducible refine fro_set_of _ ?_)))))
    refine (theirs_any st B pA gA pc gc _ (HS.out.later ((HB5.out.trans (hba.mono HB5.out.size)).mono hB))).mono ?_
    rintro e w6 ⟨hb, pA2, pc2, gA2, gc2, rfl, htp, htg, hpc2, hgc2⟩
    have HO6 := Lib.hid ((HO5.out.later hba).later hb)
    have HT6 := Lib.hid ((HT5.out.later hba).later hb)
    have HR6 := Lib.hid ((HR5.out.later2 hba).later2 hb)
    have HF6 := Lib.hid (HF5.out.later hb)
    have HX6 := Lib.hid (StRow.of_own htp htg (by omega) (by omega) hpc2 hgc2)
    have HB6 := Lib.hid ((HB5.out.trans (hba.mono HB5.out.size)).trans (hb.mono (HB5.out.trans (hba.mono HB5.out.size)).size))
    have hs6 : w5.heap.size < w6.heap.size := by have := hb.size; simp at this; omega
    clear hb hba o0 o1 o2 t0 t1 t2 HO5 HT5 HR5 HB5 HF5 htp htg
    go_wp2_with fail
    refine (rPays_any st _ pA2 gA2 pc2 gc2 p q _ HX6.out).mono ?_
    rintro e w7 ⟨rfl, hb⟩
    rw [HLR.out]
    have hl1 : (lr.1 == lr.1) = true := by simp
    have hl2 : (lr.2.1 == lr.2.1) = true := by simp
    have hl3 : (lr.2.2 == lr.2.2) = true := by simp
    have HO7 := Lib.hid (HO6.out.later hb)
    have HT7 := Lib.hid (HT6.out.later hb)
    have HR7 := Lib.hid (HR6.out.later2 hb)
    have HF7 := Lib.hid (HF6.out.later hb)
    have HB7 := Lib.hid (HB6.out.trans (hb.mono HB6.out.size))
    have hs7 : w5.heap.size < w7.heap.size := by have := hb.size; omega
    clear hb HO6 HT6 HR6 HB6 HF6 HX6
    obtain ⟨⟨x0, x1⟩, _⟩ := HF7.out
    obtain ⟨o0, o1, o2⟩ := HO7.out
    obtain ⟨t0, t1, t2⟩ := HT7.out
    go_wp2_with fail
    have hba : Below w7.heap.size w7 (w7.alloc (.cells #[.int .i64 lr.1, .int .i64 lr.2.1] 50)) := (by repeat (first | (with_reducible exact Below.refl _ _) | (with_reducible refine Below.drew ?_) | (with_reducible refine below_drewN ?_ _) | ((with_reducible refine below_alloc ?_ ?_ _); · (first | exact Nat.le_refl _ | omega | (simp; done) | (simp; omega) | (simp at *; omega))) | ((with_reducible refine below_set ?_ ?_ _); · (first | exact Nat.le_refl _ | omega | (simp; done) | (simp; omega) | (simp at *; omega))) | ((with_reducible refine below_via (by with_reducible assumption) ?_ ?_); · (first | exact Nat.le_refl _ | omega | (simp; done) | (simp; omega) | (simp at *; omega)))))
    refine (same_any st _ B pA1 gA1 pA gA pc1 gc1 pc gc _ (HR7.out.later2 hba) (HS.out.later ((HB7.out.trans (hba.mono HB7.out.size)).mono hB))).mono ?_
    rintro e w8 ⟨rfl, hb⟩
    have HB8 := Lib.hid ((HB7.out.trans (hba.mono HB7.out.size)).trans (hb.mono (HB7.out.trans (hba.mono HB7.out.size)).size))
    clear hb hba x0 x1 o0 o1 o2 t0 t1 t2
    go_wp2_with fail
    refine (awake_any _).mono ?_
    rintro e w9 ⟨rfl, hb⟩
    have HB9 := Lib.hid (HB8.out.trans (hb.mono HB8.out.size))
    clear hb
    go_wp2_with fail
    go_ret
    exact ⟨rfl, HB9.out⟩

theorem pays_long (st : St) (pA gA : Option Addr) (pc gc : Nat) (p q : Int) (W : World) (h : 6 < st.n ∨ 6 < st.m) :
    Calls Try.prog 5 #[stV pA st.n pc gA st.m gc st.lots, .int .i64 p, .int .i64 q] W fun e W' => e = .returned (.bool true) ∧ Below W.heap.size W W' := by
  have h1 : (decide (6 < st.n) || decide (6 < st.m)) = true := by simpa using h
  clear h
  go_enter Try.func5, Try.ntmps5
  go_wp2_with fail
  refine (long_any pA gA st.n pc st.m gc st.lots _).mono ?_
  rintro e w1 ⟨rfl, hb1⟩
  rw [h1]
  have HB1 := Lib.hid (show Below W.heap.size W w1 from (by repeat (first | (with_reducible exact Below.refl _ _) | (with_reducible refine Below.drew ?_) | (with_reducible refine below_drewN ?_ _) | ((with_reducible refine below_alloc ?_ ?_ _); · (first | exact Nat.le_refl _ | omega | (simp; done) | (simp; omega) | (simp at *; omega))) | ((with_reducible refine below_set ?_ ?_ _); · (first | exact Nat.le_refl _ | omega | (simp; done) | (simp; omega) | (simp at *; omega))) | ((with_reducible refine below_via (by with_reducible assumption) ?_ ?_); · (first | exact Nat.le_refl _ | omega | (simp; done) | (simp; omega) | (simp at *; omega))))))
  have hs1 := HB1.out.size
  clear hb1
  go_wp2_with fail
  refine (awake_any _).mono ?_
  rintro e w2 ⟨rfl, hb2⟩
  have HB2 := Lib.hid (HB1.out.trans (hb2.mono hs1))
  clear hb2
  go_wp2_with fail
  go_ret
  exact ⟨rfl, HB2.out⟩
set_option maxRecDepth 100000 in
set_option maxHeartbeats 1000000 in
theorem pays_many (st : St) (B : Nat) (pA gA : Option Addr) (pc gc : Nat) (p q : Int) (W : World) (hs : StRow W B st pA pc gA gc) (h1 : st.n ≤ 6) (h2 : st.m ≤ 6) (hok : 6 < st.sacks st.n ∧ st.n ≤ 4) :
    Calls Try.prog 5 #[stV pA st.n pc gA st.m gc st.lots, .int .i64 p, .int .i64 q] W fun e W' => e = .returned (.bool true) ∧ Below W.heap.size W W' := by
  have HS := Lib.hid hs
  have hB := hs.lt
  clear hs
  have hlong : (decide (6 < st.n) || decide (6 < st.m)) = false := by simp; omega
  obtain ⟨hh, hh2⟩ : 6 < st.sacks st.n ∧ (st.n : Int) ≤ 4 := by omega
  clear hok
  go_enter Try.func5, Try.ntmps5
  go_wp2_with fail
  refine (long_any pA gA st.n pc st.m gc st.lots _).mono ?_
  rintro e w1 ⟨rfl, hb1⟩
  rw [hlong]
  have HB1 := Lib.hid (show Below W.heap.size W w1 from (by repeat (first | (with_reducible exact Below.refl _ _) | (with_reducible refine Below.drew ?_) | (with_reducible refine below_drewN ?_ _) | ((with_reducible refine below_alloc ?_ ?_ _); · (first | exact Nat.le_refl _ | omega | (simp; done) | (simp; omega) | (simp at *; omega))) | ((with_reducible refine below_set ?_ ?_ _); · (first | exact Nat.le_refl _ | omega | (simp; done) | (simp; omega) | (simp at *; omega))) | ((with_reducible refine below_via (by with_reducible assumption) ?_ ?_); · (first | exact Nat.le_refl _ | omega | (simp; done) | (simp; omega) | (simp at *; omega))))))
  have hs1 := hb1.size
  simp only [World.size_alloc] at hs1
  have a0 : w1.cell? ⟨W.heap.size, 0, none⟩ = some (.slice pA st.n pc) := cell_below_of hb1 (by (repeat' refine And.intro ?_ ?_) <;> (repeat (first | (with_reducible assumption) | (simp; done) | (with_reducible refine cell_drew_of ?_) | (with_reducible refine cell_drewN_of ?_) | (with_reducible refine cell_below_of (by with_reducible assumption) ?_) | ((with_reducible refine cell_new_of ?_ ?_) <;> (first | (with_reducible rfl) | (simp; done))) | ((with_reducible refine fro_new_of ?_) <;> (first | (with_reducible rfl) | (simp; done))) | (with_reducible refine cell_alloc_of _ ?_) | (with_reducible refine cell_set_of _ (by (first | exact Nat.le_refl _ | omega | (simp; done) | (simp; omega))) ?_) | (with_reducible refine fro_drew_of ?_) | (with_reducible refine fro_drewN_of ?_) | (with_reducible refine fro_below_of (by with_reducible assumption) (by (first | exact Nat.le_refl _ | omega | (simp; done) | (simp; omega))) ?_) | (with_reducible refine fro_alloc_of _ (by (first | exact Nat.le_refl _ | omega | (simp; done) | (simp; omega))) ?_) | (with_reducible refine fro_set_of _ ?_))))
  have a1 : w1.cell? ⟨W.heap.size, 1, none⟩ = some (.slice gA st.m gc) := cell_below_of hb1 (by (repeat' refine And.intro ?_ ?_) <;> (repeat (first | (with_reducible assumption) | (simp; done) | (with_reducible refine cell_drew_of ?_) | (with_reducible refine cell_drewN_of ?_) | (with_reducible refine cell_below_of (by with_reducible assumption) ?_) | ((with_reducible refine cell_new_of ?_ ?_) <;> (first | (with_reducible rfl) | (simp; done))) | ((with_reducible refine fro_new_of ?_) <;> (first | (with_reducible rfl) | (simp; done))) | (with_reducible refine cell_alloc_of _ ?_) | (with_reducible refine cell_set_of _ (by (first | exact Nat.le_refl _ | omega | (simp; done) | (simp; omega))) ?_) | (with_reducible refine fro_drew_of ?_) | (with_reducible refine fro_drewN_of ?_) | (with_reducible refine fro_below_of (by with_reducible assumption) (by (first | exact Nat.le_refl _ | omega | (simp; done) | (simp; omega))) ?_) | (with_reducible refine fro_alloc_of _ (by (first | exact Nat.le_refl _ | omega | (simp; done) | (simp; omega))) ?_) | (with_reducible refine fro_set_of _ ?_))))
  have a2 : w1.cell? ⟨W.heap.size, 2, none⟩ = some (.int .i64 st.lots) := cell_below_of hb1 (by (repeat' refine And.intro ?_ ?_) <;> (repeat (first | (with_reducible assumption) | (simp; done) | (with_reducible refine cell_drew_of ?_) | (with_reducible refine cell_drewN_of ?_) | (with_reducible refine cell_below_of (by with_reducible assumption) ?_) | ((with_reducible refine cell_new_of ?_ ?_) <;> (first | (with_reducible rfl) | (simp; done))) | ((with_reducible refine fro_new_of ?_) <;> (first | (with_reducible rfl) | (simp; done))) | (with_reducible refine cell_alloc_of _ ?_) | (with_reducible refine cell_set_of _ (by (first | exact Nat.le_refl _ | omega | (simp; done) | (simp; omega))) ?_) | (with_reducible refine fro_drew_of ?_) | (with_reducible refine fro_drewN_of ?_) | (with_reducible refine fro_below_of (by with_reducible assumption) (by (first | exact Nat.le_refl _ | omega | (simp; done) | (simp; omega))) ?_) | (with_reducible refine fro_alloc_of _ (by (first | exact Nat.le_refl _ | omega | (simp; done) | (simp; omega))) ?_) | (with_reducible refine fro_set_of _ ?_))))
  have HA := Lib.hid (show _ ∧ _ ∧ _ from ⟨a0, a1, a2⟩)
  clear hb1
  go_wp2_with fail
  refine (sacks_any st B pA gA pc gc _ (HS.out.later (HB1.out.mono hB))).mono ?_
  rintro e w2 ⟨rfl, hb⟩
  have HB2 := Lib.hid (HB1.out.trans (hb.mono HB1.out.size))
  have a0' := cell_below_of hb HA.out.1
  clear hb a0 a1 a2
  go_wp2_with fail
  refine (awake_any _).mono ?_
  rintro e w3 ⟨rfl, hb⟩
  have HB3 := Lib.hid (HB2.out.trans (hb.mono HB2.out.size))
  clear hb
  go_wp2_with fail
  go_ret
  exact ⟨rfl, HB3.out⟩
theorem lpays_any (st : St) (pA gA : Option Addr) (pc gc : Nat) (p q : Int) (W : World) (hp : PkRow W W.heap.size pA st.n st.P) (hg : GdRow W W.heap.size gA st.m st.G) (hpc : st.n ≤ pc) (hgc : st.m ≤ gc) :
    Calls Try.prog 5 #[stV pA st.n pc gA st.m gc st.lots, .int .i64 p, .int .i64 q] W fun e W' => e = .returned (.bool true) ∧ Below W.heap.size W W' := by
  by_cases h : 6 < st.n ∨ 6 < st.m
  · exact pays_long st pA gA pc gc p q W h
  · have hs : StRow W W.heap.size st pA pc gA gc := ⟨Nat.le_refl _, hp, hg, by omega, by omega, hpc, hgc⟩
    by_cases h2 : 6 < st.sacks st.n ∧ st.n ≤ 4
    · exact pays_many st W.heap.size pA gA pc gc p q W hs (by omega) (by omega) h2
    · exact pays_in st W.heap.size pA gA pc gc p q W hs (by omega) (by omega) h2
end Go.Proofs.Ytegmomappbehcaa

set_option linter.unusedSimpArgs false
set_option linter.unusedVariables false
namespace Go.Proofs.Ytegmomappbehcaa
open Go.ChangeShapes Go.WideShapes Go.ChangeAt Go.RowKit

set_option maxRecDepth 100000 in
set_option maxHeartbeats 1000000 in
theorem pays_lifted (os : Os) (started : os.Started) (H : Type) (enc : TypeId × Value → H) :
    ReturnsInHanded {} Try.checked os 5 .any (Rows.lotPaysSpec.pre6 enc Try.prog Try.f5 Rows.lotPaysRow.domain false) (Rows.lotPaysSpec.post enc Try.prog Try.f5 false true false false) := by
  refine returnsInHanded_of_change (C := Try.checked) own_knob started (by kernel_rfl) Try.func5
    (ChangeSpec.witness6 (enc := enc) (C := Try.checked) false ⟨#[], #[.agg #[.slice none 0 0, .slice none 0 0, .int .i64 0], .int .i64 0, .int .i64 0], []⟩ 8 (by kernel_rfl) (by kernel_rfl) (by kernel_rfl) (by kernel_rfl)) ?_
  intro W base args ds gs before hval0 hW hcnd _
  have hval : ∀ (j : Nat) t v, Try.f5.params[j]? = some t → args[j]? = some v → Value.okWide Try.prog W .any base t v := hval0
  have hW' := hW
  obtain ⟨p, q, hA0, hV, rfl, hfz, hnd⟩ := hW
  have hA : DataW.TrodAll enc Try.prog W 0 (fun _ => true) true Try.f5.params.toList args.toList ds p := hA0
  rw [Try.params5] at hA hval
  obtain ⟨v0, v1, v2, d0, d1, d2, p0, p1, p2, rfl, rfl, rfl, h0, h1, h2⟩ := trodAll_three hA
  obtain ⟨rfl, rfl⟩ := trodVars_none hV
  obtain ⟨st, pA, gA, pc, gc, rfl, hp, hg, hpc, hgc⟩ := open_store (hval 0 25 v0 rfl rfl) h0
  obtain ⟨k, rfl, rfl, rfl, wk⟩ := open_int Try.underlying3 (hval 1 3 v1 rfl rfl) h1
  obtain ⟨a, rfl, rfl, rfl, wa⟩ := open_int Try.underlying3 (hval 2 3 v2 rfl rfl) h2
  clear hA0 hval0
  simp only [List.append_nil] at hW'
  have hlt0 : ∀ x ∈ p0, x.block < W.heap.size := fun x hx => hW'.lt x (by simp [hx])
  refine (lpays_any st pA gA pc gc k a W hp hg hpc hgc).mono fun e W' ⟨he, bel⟩ => ?_
  subst he
  exact ⟨_, rfl, _, _, _, [], _, [], hW', trodAll_mk1 (shut_bool Try.underlying4 true),
    trodAll_mk3 (Below.trod laid_out (by kernel_rfl) (of_decide_eq_true (by kernel_rfl)) h0 bel hlt0) (shut_int Try.underlying3 wk) (shut_int Try.underlying3 wa), rfl, bel.frame _, fun h => by cases h⟩

theorem lot_pays_holds : Rows.LotPaysSaid :=
  OpenClaim.holds_of_wide 5 Try.f5 rfl rfl rfl rfl rfl rfl rfl ⟨rfl, rfl, rfl, rfl, rfl⟩ rfl rfl rfl rfl rfl (by kernel_rfl) Try.func5 (by kernel_rfl)
    (of_decide_eq_true (by kernel_rfl)) (by unfold Func.isWrapper; first | (rw [if_pos (by decide +kernel)]; kernel_rfl) | (rw [if_neg (by decide +kernel)]; exact ⟨rfl, rfl⟩))
    (fun os started H enc _ => pays_lifted os started H enc)
#print axioms lot_pays_holds
end Go.Proofs.Ytegmomappbehcaa
