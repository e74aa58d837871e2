/- Arguments opened: lists of lists of numbers. -/
import Derived.Test.YtegmomappbehcaaTe
import Derived.Test.YtegmomappbehcaaTk
import Derived.Deep.AppendLies
import Derived.Deep.RegionHeldLaw
import Derived.Test.YtegmomappbehcaaWp
import Derived.Test.YtegmomappbehcaaLc
import Derived.Test.YtegmomappbehcaaTp
import Derived.Test.YtegmomappbehcaaWs
import Derived.Test.YtegmomappbehcaaWy
import Derived.Test.YtegmomappbehcaaPo
set_option linter.unusedSimpArgs false
set_option linter.unusedVariables false
namespace Go.Proofs.Ytegmomappbehcaa
open Go.RowKit Go.Shelf

set_option maxRecDepth 100000 in
set_option maxHeartbeats 1000000 in
theorem rSpan_any (st : St) (B : Nat) (pA gA : Option Addr) (pc gc : Nat) (lA : Option Addr) (ln lc : Nat) (X : Nat → Int) (W : World) (hs : StRow W B st pA pc gA gc) (hl : IntRow W W.heap.size lA ln X) (hn : ln ≤ 1000) :
    Calls Try.prog 68 #[stV pA st.n pc gA st.m gc st.lots, .slice lA ln lc] W fun e W' => e = .returned (spV (st.spanR ln X)) ∧ Below W.heap.size W W' := by
  have HS := Lib.hid hs; have HL := Lib.hid hl; have hB := hs.lt; clear hs hl
  go_enter Try.func68, Try.ntmps68
  go_wp2_with fail
  refine (rLot_any st B pA gA pc gc lA ln lc X _ (HS.out.later (by repeat (first | (with_reducible exact Below.refl _ _) | (with_reducible refine Below.drew ?_) | (with_reducible refine below_drewN ?_ _) | ((with_reducible refine below_alloc ?_ ?_ _); · (first | exact Nat.le_refl _ | omega | (simp; done) | (simp; omega) | (simp at *; omega))) | ((with_reducible refine below_set ?_ ?_ _); · (first | exact Nat.le_refl _ | omega | (simp; done) | (simp; omega) | (simp at *; omega))) | ((with_reducible refine below_via (by with_reducible assumption) ?_ ?_); · (first | exact Nat.le_refl _ | omega | (simp; done) | (simp; omega) | (simp at *; omega)))))) (HL.out.later (by repeat (first | (with_reducible exact Below.refl _ _) | (with_reducible refine Below.drew ?_) | (with_reducible refine below_drewN ?_ _) | ((with_reducible refine below_alloc ?_ ?_ _); · (first | exact Nat.le_refl _ | omega | (simp; done) | (simp; omega) | (simp at *; omega))) | ((with_reducible refine below_set ?_ ?_ _); · (first | exact Nat.le_refl _ | omega | (simp; done) | (simp; omega) | (simp at *; omega))) | ((with_reducible refine below_via (by with_reducible assumption) ?_ ?_); · (first | exact Nat.le_refl _ | omega | (simp; done) | (simp; omega) | (simp at *; omega)))))) hn).mono ?_; rintro e w1 ⟨rfl, hb1⟩; have HB1 := Lib.hid (show Below W.heap.size W w1 from (by repeat (first | (with_reducible exact Below.refl _ _) | (with_reducible refine Below.drew ?_) | (with_reducible refine below_drewN ?_ _) | ((with_reducible refine below_alloc ?_ ?_ _); · (first | exact Nat.le_refl _ | omega | (simp; done) | (simp; omega) | (simp at *; omega))) | ((with_reducible refine below_set ?_ ?_ _); · (first | exact Nat.le_refl _ | omega | (simp; done) | (simp; omega) | (simp at *; omega))) | ((with_reducible refine below_via (by with_reducible assumption) ?_ ?_); · (first | exact Nat.le_refl _ | omega | (simp; done) | (simp; omega) | (simp at *; omega)))))); have hs1 := hb1.size; simp only [World.size_alloc] at hs1; have HA := Lib.hid (show w1.cell? ⟨W.heap.size, 0, none⟩ = some (.slice pA st.n pc) ∧ w1.cell? ⟨W.heap.size, 1, none⟩ = some (.slice gA st.m gc) ∧ w1.cell? ⟨W.heap.size, 2, none⟩ = some (.int .i64 st.lots) from ⟨cell_below_of hb1 (by (repeat' refine And.intro ?_ ?_) <;> (repeat (first | (with_reducible assumption) | (simp; done) | (with_reducible refine cell_drew_of ?_) | (with_reducible refine cell_drewN_of ?_) | (with_reducible refine cell_below_of (by with_reducible assumption) ?_) | ((with_reducible refine cell_new_of ?_ ?_) <;> (first | (with_reducible rfl) | (simp; done))) | ((with_reducible refine fro_new_of ?_) <;> (first | (with_reducible rfl) | (simp; done))) | (with_reducible refine cell_alloc_of _ ?_) | (with_reducible refine cell_set_of _ (by (first | exact Nat.le_refl _ | omega | (simp; done) | (simp; omega))) ?_) | (with_reducible refine fro_drew_of ?_) | (with_reducible refine fro_drewN_of ?_) | (with_reducible refine fro_below_of (by with_reducible assumption) (by (first | exact Nat.le_refl _ | omega | (simp; done) | (simp; omega))) ?_) | (with_reducible refine fro_alloc_of _ (by (first | exact Nat.le_refl _ | omega | (simp; done) | (simp; omega))) ?_) | (with_reducible refine fro_set_of _ ?_)))), cell_below_of hb1 (by (repeat' refine And.intro ?_ ?_) <;> (repeat (first | (with_reducible assumption) | (simp; done) | (with_reducible refine cell_drew_of ?_) | (with_reducible refine cell_drewN_of ?_) | (with_reducible refine cell_below_of (by with_reducible assumption) ?_) | ((with_reducible refine cell_new_of ?_ ?_) <;> (first | (with_reducible rfl) | (simp; done))) | ((with_reducible refine fro_new_of ?_) <;> (first | (with_reducible rfl) | (simp; done))) | (with_reducible refine cell_alloc_of _ ?_) | (with_reducible refine cell_set_of _ (by (first | exact Nat.le_refl _ | omega | (simp; done) | (simp; omega))) ?_) | (with_reducible refine fro_drew_of ?_) | (with_reducible refine fro_drewN_of ?_) | (with_reducible refine fro_below_of (by with_reducible assumption) (by (first | exact Nat.le_refl _ | omega | (simp; done) | (simp; omega))) ?_) | (with_reducible refine fro_alloc_of _ (by (first | exact Nat.le_refl _ | omega | (simp; done) | (simp; omega))) ?_) | (with_reducible refine fro_set_of _ ?_)))), cell_below_of hb1 (by (repeat' refine And.intro ?_ ?_) <;> (repeat (first | (with_reducible assumption) | (simp; done) | (with_reducible refine cell_drew_of ?_) | (with_reducible refine cell_drewN_of ?_) | (with_reducible refine cell_below_of (by with_reducible assumption) ?_) | ((with_reducible refine cell_new_of ?_ ?_) <;> (first | (with_reducible rfl) | (simp; done))) | ((with_reducible refine fro_new_of ?_) <;> (first | (with_reducible rfl) | (simp; done))) | (with_reducible refine cell_alloc_of _ ?_) | (with_reducible refine cell_set_of _ (by (first | exact Nat.le_refl _ | omega | (simp; done) | (simp; omega))) ?_) | (with_reducible refine fro_drew_of ?_) | (with_reducible refine fro_drewN_of ?_) | (with_reducible refine fro_below_of (by with_reducible assumption) (by (first | exact Nat.le_refl _ | omega | (simp; done) | (simp; omega))) ?_) | (with_reducible refine fro_alloc_of _ (by (first | exact Nat.le_refl _ | omega | (simp; done) | (simp; omega))) ?_) | (with_reducible refine fro_set_of _ ?_))))⟩)
  have hz1 := Lib.hid (show Z2 w1 (W.heap.size + 1) from (show Z2 ((W.alloc (.cells #[.slice pA st.n pc, .slice gA st.m gc, .int .i64 st.lots] 34)).alloc (.cells #[.int .i64 0, .int .i64 0] 50)) (W.heap.size + 1) from (by (repeat' refine And.intro ?_ ?_) <;> (repeat (first | (with_reducible assumption) | (simp; done) | (with_reducible refine cell_drew_of ?_) | (with_reducible refine cell_drewN_of ?_) | (with_reducible refine cell_below_of (by with_reducible assumption) ?_) | ((with_reducible refine cell_new_of ?_ ?_) <;> (first | (with_reducible rfl) | (simp; done))) | ((with_reducible refine fro_new_of ?_) <;> (first | (with_reducible rfl) | (simp; done))) | (with_reducible refine cell_alloc_of _ ?_) | (with_reducible refine cell_set_of _ (by (first | exact Nat.le_refl _ | omega | (simp; done) | (simp; omega))) ?_) | (with_reducible refine fro_drew_of ?_) | (with_reducible refine fro_drewN_of ?_) | (with_reducible refine fro_below_of (by with_reducible assumption) (by (first | exact Nat.le_refl _ | omega | (simp; done) | (simp; omega))) ?_) | (with_reducible refine fro_alloc_of _ (by (first | exact Nat.le_refl _ | omega | (simp; done) | (simp; omega))) ?_) | (with_reducible refine fro_set_of _ ?_))))).later hb1)
  clear hb1
  by_cases h0 : st.askErr ln X = 0
  · have hnb : (st.askErr ln X != 0) = false := by simpa using h0
    have HR : Hid (st.spanR ln X = (st.lo (bagOf X ln), st.hi (bagOf X ln), 0)) := Lib.hid (by unfold St.spanR; rw [if_neg (by simp [h0])])
    have HST := Lib.hid (St.askErr_ok h0).1; have HX := Lib.hid (ask_rng h0); obtain rfl : ln = st.n := (St.askErr_ok h0).2.2
    obtain ⟨a0, a1, a2⟩ := HA.out
    clear h0
    go_wp2_with fail
    refine (rspan_any st HST.out B pA gA pc gc lA lc X _ (HS.out.later (HB1.out.mono hB)) (HL.out.later HB1.out) HX.out).mono ?_
    rintro e w2 ⟨rfl, hb2⟩
    have HB2 := Lib.hid (HB1.out.trans (hb2.mono (by omega)))
    have hs2 := hb2.size
    have hz2 := Lib.hid (hz1.out.later hb2)
    obtain ⟨⟨b0, b1⟩, f0, f1⟩ := hz2.out
    have q := ((show N2At w2 (W.heap.size + 1) 0 0 from hz2.out).set0 (st.lo (bagOf X st.n))).set1 (st.hi (bagOf X st.n))
    have hbo := HB2.out
    have hqb := Lib.hid (show Below W.heap.size W ((w2.setCell ⟨W.heap.size + 1, 0, none⟩ (.int .i64 (st.lo (bagOf X st.n)))).setCell ⟨W.heap.size + 1, 1, none⟩ (.int .i64 (st.hi (bagOf X st.n)))) from (by repeat (first | (with_reducible exact Below.refl _ _) | (with_reducible refine Below.drew ?_) | (with_reducible refine below_drewN ?_ _) | ((with_reducible refine below_alloc ?_ ?_ _); · (first | exact Nat.le_refl _ | omega | (simp; done) | (simp; omega) | (simp at *; omega))) | ((with_reducible refine below_set ?_ ?_ _); · (first | exact Nat.le_refl _ | omega | (simp; done) | (simp; omega) | (simp at *; omega))) | ((with_reducible refine below_via (by with_reducible assumption) ?_ ?_); · (first | exact Nat.le_refl _ | omega | (simp; done) | (simp; omega) | (simp at *; omega))))))
    clear hb2 hbo a0 a1 a2
    go_wp2_with fail
    obtain ⟨⟨q0, q1⟩, _⟩ := q
    exact bodyPost_ret (v := spV (st.lo (bagOf X st.n), st.hi (bagOf X st.n), 0)) (by simp [results, Try.results68, go_sem, q0, q1]) rfl ⟨by rw [HR.out], hqb.out⟩
  · have hnb : (st.askErr ln X != 0) = true := by simpa using h0
    have HR : Hid (st.spanR ln X = (0, 0, st.askErr ln X)) := Lib.hid (by unfold St.spanR; rw [if_pos (by simpa using h0)])
    obtain ⟨⟨b0, b1⟩, f0, f1⟩ := hz1.out
    have q := ((show N2At w1 (W.heap.size + 1) 0 0 from hz1.out).set0 0).set1 0
    have hbo := HB1.out
    have hqb := Lib.hid (show Below W.heap.size W ((w1.setCell ⟨W.heap.size + 1, 0, none⟩ (.int .i64 0)).setCell ⟨W.heap.size + 1, 1, none⟩ (.int .i64 0)) from (by repeat (first | (with_reducible exact Below.refl _ _) | (with_reducible refine Below.drew ?_) | (with_reducible refine below_drewN ?_ _) | ((with_reducible refine below_alloc ?_ ?_ _); · (first | exact Nat.le_refl _ | omega | (simp; done) | (simp; omega) | (simp at *; omega))) | ((with_reducible refine below_set ?_ ?_ _); · (first | exact Nat.le_refl _ | omega | (simp; done) | (simp; omega) | (simp at *; omega))) | ((with_reducible refine below_via (by with_reducible assumption) ?_ ?_); · (first | exact Nat.le_refl _ | omega | (simp; done) | (simp; omega) | (simp at *; omega))))))
    clear h0 hbo
    go_wp2_with fail
    obtain ⟨⟨q0, q1⟩, _⟩ := q
    exact bodyPost_ret (v := spV (0, 0, st.askErr ln X)) (by simp [results, Try.results68, go_sem, q0, q1]) rfl ⟨by rw [HR.out], hqb.out⟩

set_option maxRecDepth 100000 in
set_option maxHeartbeats 1000000 in
theorem rSure_any (st : St) (B : Nat) (pA gA : Option Addr) (pc gc : Nat) (lA : Option Addr) (ln lc : Nat) (X : Nat → Int) (W : World) (hs : StRow W B st pA pc gA gc) (hl : IntRow W W.heap.size lA ln X) (hn : ln ≤ 1000) :
    Calls Try.prog 71 #[stV pA st.n pc gA st.m gc st.lots, .slice lA ln lc] W fun e W' => e = .returned (nuV (st.sureR ln X)) ∧ Below W.heap.size W W' := by
  have HS := Lib.hid hs; have HL := Lib.hid hl; have hB := hs.lt; clear hs hl
  go_enter Try.func71, Try.ntmps71
  go_wp2_with fail
  refine (rLot_any st B pA gA pc gc lA ln lc X _ (HS.out.later (by repeat (first | (with_reducible exact Below.refl _ _) | (with_reducible refine Below.drew ?_) | (with_reducible refine below_drewN ?_ _) | ((with_reducible refine below_alloc ?_ ?_ _); · (first | exact Nat.le_refl _ | omega | (simp; done) | (simp; omega) | (simp at *; omega))) | ((with_reducible refine below_set ?_ ?_ _); · (first | exact Nat.le_refl _ | omega | (simp; done) | (simp; omega) | (simp at *; omega))) | ((with_reducible refine below_via (by with_reducible assumption) ?_ ?_); · (first | exact Nat.le_refl _ | omega | (simp; done) | (simp; omega) | (simp at *; omega)))))) (HL.out.later (by repeat (first | (with_reducible exact Below.refl _ _) | (with_reducible refine Below.drew ?_) | (with_reducible refine below_drewN ?_ _) | ((with_reducible refine below_alloc ?_ ?_ _); · (first | exact Nat.le_refl _ | omega | (simp; done) | (simp; omega) | (simp at *; omega))) | ((with_reducible refine below_set ?_ ?_ _); · (first | exact Nat.le_refl _ | omega | (simp; done) | (simp; omega) | (simp at *; omega))) | ((with_reducible refine below_via (by with_reducible assumption) ?_ ?_); · (first | exact Nat.le_refl _ | omega | (simp; done) | (simp; omega) | (simp at *; omega)))))) hn).mono ?_; rintro e w1 ⟨rfl, hb1⟩; have HB1 := Lib.hid (show Below W.heap.size W w1 from (by repeat (first | (with_reducible exact Below.refl _ _) | (with_reducible refine Below.drew ?_) | (with_reducible refine below_drewN ?_ _) | ((with_reducible refine below_alloc ?_ ?_ _); · (first | exact Nat.le_refl _ | omega | (simp; done) | (simp; omega) | (simp at *; omega))) | ((with_reducible refine below_set ?_ ?_ _); · (first | exact Nat.le_refl _ | omega | (simp; done) | (simp; omega) | (simp at *; omega))) | ((with_reducible refine below_via (by with_reducible assumption) ?_ ?_); · (first | exact Nat.le_refl _ | omega | (simp; done) | (simp; omega) | (simp at *; omega)))))); have hs1 := hb1.size; simp only [World.size_alloc] at hs1; have HA := Lib.hid (show w1.cell? ⟨W.heap.size, 0, none⟩ = some (.slice pA st.n pc) ∧ w1.cell? ⟨W.heap.size, 1, none⟩ = some (.slice gA st.m gc) ∧ w1.cell? ⟨W.heap.size, 2, none⟩ = some (.int .i64 st.lots) from ⟨cell_below_of hb1 (by (repeat' refine And.intro ?_ ?_) <;> (repeat (first | (with_reducible assumption) | (simp; done) | (with_reducible refine cell_drew_of ?_) | (with_reducible refine cell_drewN_of ?_) | (with_reducible refine cell_below_of (by with_reducible assumption) ?_) | ((with_reducible refine cell_new_of ?_ ?_) <;> (first | (with_reducible rfl) | (simp; done))) | ((with_reducible refine fro_new_of ?_) <;> (first | (with_reducible rfl) | (simp; done))) | (with_reducible refine cell_alloc_of _ ?_) | (with_reducible refine cell_set_of _ (by (first | exact Nat.le_refl _ | omega | (simp; done) | (simp; omega))) ?_) | (with_reducible refine fro_drew_of ?_) | (with_reducible refine fro_drewN_of ?_) | (with_reducible refine fro_below_of (by with_reducible assumption) (by (first | exact Nat.le_refl _ | omega | (simp; done) | (simp; omega))) ?_) | (with_reducible refine fro_alloc_of _ (by (first | exact Nat.le_refl _ | omega | (simp; done) | (simp; omega))) ?_) | (with_reducible refine fro_set_of _ ?_)))), cell_below_of hb1 (by (repeat' refine And.intro ?_ ?_) <;> (repeat (first | (with_reducible assumption) | (simp; done) | (with_reducible refine cell_drew_of ?_) | (with_reducible refine cell_drewN_of ?_) | (with_reducible refine cell_below_of (by with_reducible assumption) ?_) | ((with_reducible refine cell_new_of ?_ ?_) <;> (first | (with_reducible rfl) | (simp; done))) | ((with_reducible refine fro_new_of ?_) <;> (first | (with_reducible rfl) | (simp; done))) | (with_reducible refine cell_alloc_of _ ?_) | (with_reducible refine cell_set_of _ (by (first | exact Nat.le_refl _ | omega | (simp; done) | (simp; omega))) ?_) | (with_reducible refine fro_drew_of ?_) | (with_reducible refine fro_drewN_of ?_) | (with_reducible refine fro_below_of (by with_reducible assumption) (by (first | exact Nat.le_refl _ | omega | (simp; done) | (simp; omega))) ?_) | (with_reducible refine fro_alloc_of _ (by (first | exact Nat.le_refl _ | omega | (simp; done) | (simp; omega))) ?_) | (with_reducible refine fro_set_of _ ?_)))), cell_below_of hb1 (by (repeat' refine And.intro ?_ ?_) <;> (repeat (first | (with_reducible assumption) | (simp; done) | (with_reducible refine cell_drew_of ?_) | (with_reducible refine cell_drewN_of ?_) | (with_reducible refine cell_below_of (by with_reducible assumption) ?_) | ((with_reducible refine cell_new_of ?_ ?_) <;> (first | (with_reducible rfl) | (simp; done))) | ((with_reducible refine fro_new_of ?_) <;> (first | (with_reducible rfl) | (simp; done))) | (with_reducible refine cell_alloc_of _ ?_) | (with_reducible refine cell_set_of _ (by (first | exact Nat.le_refl _ | omega | (simp; done) | (simp; omega))) ?_) | (with_reducible refine fro_drew_of ?_) | (with_reducible refine fro_drewN_of ?_) | (with_reducible refine fro_below_of (by with_reducible assumption) (by (first | exact Nat.le_refl _ | omega | (simp; done) | (simp; omega))) ?_) | (with_reducible refine fro_alloc_of _ (by (first | exact Nat.le_refl _ | omega | (simp; done) | (simp; omega))) ?_) | (with_reducible refine fro_set_of _ ?_))))⟩)
  clear hb1
  by_cases h0 : st.askErr ln X = 0
  · have hnb : (st.askErr ln X != 0) = false := by simpa using h0
    have HR : Hid (st.sureR ln X = (st.sureI (bagOf X ln), 0)) := Lib.hid (by unfold St.sureR; rw [if_neg (by simp [h0])])
    have HST := Lib.hid (St.askErr_ok h0).1; have HX := Lib.hid (ask_rng h0); obtain rfl : ln = st.n := (St.askErr_ok h0).2.2
    obtain ⟨a0, a1, a2⟩ := HA.out
    clear h0
    go_wp2_with fail
    refine (rsure_any st HST.out B pA gA pc gc lA lc X _ (HS.out.later (HB1.out.mono hB)) (HL.out.later HB1.out) HX.out).mono ?_
    rintro e w2 ⟨rfl, hb2⟩
    have HB2 := Lib.hid (HB1.out.trans (hb2.mono (by omega)))
    clear hb2 a0 a1 a2
    go_wp2_with fail
    go_ret2
    exact ⟨by rw [HR.out]; rfl, HB2.out⟩
  · have hnb : (st.askErr ln X != 0) = true := by simpa using h0
    have HR : Hid (st.sureR ln X = (0, st.askErr ln X)) := Lib.hid (by unfold St.sureR; rw [if_pos (by simpa using h0)])
    clear h0
    go_wp2_with fail
    go_ret2
    exact ⟨by rw [HR.out]; rfl, HB1.out⟩

set_option maxRecDepth 100000 in
set_option maxHeartbeats 1000000 in
theorem rBrings_any (st : St) (B : Nat) (pA gA : Option Addr) (pc gc : Nat) (lA : Option Addr) (ln lc : Nat) (X : Nat → Int) (W : World) (hs : StRow W B st pA pc gA gc) (hl : IntRow W W.heap.size lA ln X) (hn : ln ≤ 1000) :
    Calls Try.prog 66 #[stV pA st.n pc gA st.m gc st.lots, .slice lA ln lc] W fun e W' => e = .returned (nuV (st.bringsR ln X)) ∧ Below W.heap.size W W' := by
  have HS := Lib.hid hs; have HL := Lib.hid hl; have hB := hs.lt; clear hs hl
  go_enter Try.func66, Try.ntmps66
  go_wp2_with fail
  refine (rLot_any st B pA gA pc gc lA ln lc X _ (HS.out.later (by repeat (first | (with_reducible exact Below.refl _ _) | (with_reducible refine Below.drew ?_) | (with_reducible refine below_drewN ?_ _) | ((with_reducible refine below_alloc ?_ ?_ _); · (first | exact Nat.le_refl _ | omega | (simp; done) | (simp; omega) | (simp at *; omega))) | ((with_reducible refine below_set ?_ ?_ _); · (first | exact Nat.le_refl _ | omega | (simp; done) | (simp; omega) | (simp at *; omega))) | ((with_reducible refine below_via (by with_reducible assumption) ?_ ?_); · (first | exact Nat.le_refl _ | omega | (simp; done) | (simp; omega) | (simp at *; omega)))))) (HL.out.later (by repeat (first | (with_reducible exact Below.refl _ _) | (with_reducible refine Below.drew ?_) | (with_reducible refine below_drewN ?_ _) | ((with_reducible refine below_alloc ?_ ?_ _); · (first | exact Nat.le_refl _ | omega | (simp; done) | (simp; omega) | (simp at *; omega))) | ((with_reducible refine below_set ?_ ?_ _); · (first | exact Nat.le_refl _ | omega | (simp; done) | (simp; omega) | (simp at *; omega))) | ((with_reducible refine below_via (by with_reducible assumption) ?_ ?_); · (first | exact Nat.le_refl _ | omega | (simp; done) | (simp; omega) | (simp at *; omega)))))) hn).mono ?_; rintro e w1 ⟨rfl, hb1⟩; have HB1 := Lib.hid (show Below W.heap.size W w1 from (by repeat (first | (with_reducible exact Below.refl _ _) | (with_reducible refine Below.drew ?_) | (with_reducible refine below_drewN ?_ _) | ((with_reducible refine below_alloc ?_ ?_ _); · (first | exact Nat.le_refl _ | omega | (simp; done) | (simp; omega) | (simp at *; omega))) | ((with_reducible refine below_set ?_ ?_ _); · (first | exact Nat.le_refl _ | omega | (simp; done) | (simp; omega) | (simp at *; omega))) | ((with_reducible refine below_via (by with_reducible assumption) ?_ ?_); · (first | exact Nat.le_refl _ | omega | (simp; done) | (simp; omega) | (simp at *; omega)))))); have hs1 := hb1.size; simp only [World.size_alloc] at hs1; have HA := Lib.hid (show w1.cell? ⟨W.heap.size, 0, none⟩ = some (.slice pA st.n pc) ∧ w1.cell? ⟨W.heap.size, 1, none⟩ = some (.slice gA st.m gc) ∧ w1.cell? ⟨W.heap.size, 2, none⟩ = some (.int .i64 st.lots) from ⟨cell_below_of hb1 (by (repeat' refine And.intro ?_ ?_) <;> (repeat (first | (with_reducible assumption) | (simp; done) | (with_reducible refine cell_drew_of ?_) | (with_reducible refine cell_drewN_of ?_) | (with_reducible refine cell_below_of (by with_reducible assumption) ?_) | ((with_reducible refine cell_new_of ?_ ?_) <;> (first | (with_reducible rfl) | (simp; done))) | ((with_reducible refine fro_new_of ?_) <;> (first | (with_reducible rfl) | (simp; done))) | (with_reducible refine cell_alloc_of _ ?_) | (with_reducible refine cell_set_of _ (by (first | exact Nat.le_refl _ | omega | (simp; done) | (simp; omega))) ?_) | (with_reducible refine fro_drew_of ?_) | (with_reducible refine fro_drewN_of ?_) | (with_reducible refine fro_below_of (by with_reducible assumption) (by (first | exact Nat.le_refl _ | omega | (simp; done) | (simp; omega))) ?_) | (with_reducible refine fro_alloc_of _ (by (first | exact Nat.le_refl _ | omega | (simp; done) | (simp; omega))) ?_) | (with_reducible refine fro_set_of _ ?_)))), cell_below_of hb1 (by (repeat' refine And.intro ?_ ?_) <;> (repeat (first | (with_reducible assumption) | (simp; done) | (with_reducible refine cell_drew_of ?_) | (with_reducible refine cell_drewN_of ?_) | (with_reducible refine cell_below_of (by with_reducible assumption) ?_) | ((with_reducible refine cell_new_of ?_ ?_) <;> (first | (with_reducible rfl) | (simp; done))) | ((with_reducible refine fro_new_of ?_) <;> (first | (with_reducible rfl) | (simp; done))) | (with_reducible refine cell_alloc_of _ ?_) | (with_reducible refine cell_set_of _ (by (first | exact Nat.le_refl _ | omega | (simp; done) | (simp; omega))) ?_) | (with_reducible refine fro_drew_of ?_) | (with_reducible refine fro_drewN_of ?_) | (with_reducible refine fro_below_of (by with_reducible assumption) (by (first | exact Nat.le_refl _ | omega | (simp; done) | (simp; omega))) ?_) | (with_reducible refine fro_alloc_of _ (by (first | exact Nat.le_refl _ | omega | (simp; done) | (simp; omega))) ?_) | (with_reducible refine fro_set_of _ ?_)))), cell_below_of hb1 (by (repeat' refine And.intro ?_ ?_) <;> (repeat (first | (with_reducible assumption) | (simp; done) | (with_reducible refine cell_drew_of ?_) | (with_reducible refine cell_drewN_of ?_) | (with_reducible refine cell_below_of (by with_reducible assumption) ?_) | ((with_reducible refine cell_new_of ?_ ?_) <;> (first | (with_reducible rfl) | (simp; done))) | ((with_reducible refine fro_new_of ?_) <;> (first | (with_reducible rfl) | (simp; done))) | (with_reducible refine cell_alloc_of _ ?_) | (with_reducible refine cell_set_of _ (by (first | exact Nat.le_refl _ | omega | (simp; done) | (simp; omega))) ?_) | (with_reducible refine fro_drew_of ?_) | (with_reducible refine fro_drewN_of ?_) | (with_reducible refine fro_below_of (by with_reducible assumption) (by (first | exact Nat.le_refl _ | omega | (simp; done) | (simp; omega))) ?_) | (with_reducible refine fro_alloc_of _ (by (first | exact Nat.le_refl _ | omega | (simp; done) | (simp; omega))) ?_) | (with_reducible refine fro_set_of _ ?_))))⟩)
  clear hb1
  by_cases h0 : st.askErr ln X = 0
  · have hnb : (st.askErr ln X != 0) = false := by simpa using h0
    have HR : Hid (st.bringsR ln X = (st.brings (bagOf X ln), 0)) := Lib.hid (by unfold St.bringsR; rw [if_neg (by simp [h0])])
    have HST := Lib.hid (St.askErr_ok h0).1; have HX := Lib.hid (ask_rng h0); obtain rfl : ln = st.n := (St.askErr_ok h0).2.2
    obtain ⟨a0, a1, a2⟩ := HA.out
    clear h0
    go_wp2_with fail
    refine (rbrings_any st HST.out B pA gA pc gc lA lc X _ (HS.out.later (HB1.out.mono hB)) (HL.out.later HB1.out) HX.out).mono ?_
    rintro e w2 ⟨rfl, hb2⟩
    have HB2 := Lib.hid (HB1.out.trans (hb2.mono (by omega)))
    clear hb2 a0 a1 a2
    go_wp2_with fail
    go_ret2
    exact ⟨by rw [HR.out]; rfl, HB2.out⟩
  · have hnb : (st.askErr ln X != 0) = true := by simpa using h0
    have HR : Hid (st.bringsR ln X = (0, st.askErr ln X)) := Lib.hid (by unfold St.bringsR; rw [if_pos (by simpa using h0)])
    clear h0
    go_wp2_with fail
    go_ret2
    exact ⟨by rw [HR.out]; rfl, HB1.out⟩

set_option maxRecDepth 100000 in
set_option maxHeartbeats 2000000 in
theorem rKept_any (st : St) (B : Nat) (pA gA : Option Addr) (pc gc : Nat) (lA : Option Addr) (ln lc : Nat) (X : Nat → Int) (opened most : Int) (W : World) (hs : StRow W B st pA pc gA gc) (hl : IntRow W W.heap.size lA ln X) (hn : ln ≤ 1000) :
    Calls Try.prog 28 #[stV pA st.n pc gA st.m gc st.lots, .slice lA ln lc, .int .i64 opened, .int .i64 most] W fun e W' => e = .returned (boV (st.keptR ln X opened most)) ∧ Below W.heap.size W W' := by
  have HS := Lib.hid hs; have HL := Lib.hid hl; have hB := hs.lt; clear hs hl
  go_enter Try.func28, Try.ntmps28
  go_wp2_with fail
  refine (rLot_any st B pA gA pc gc lA ln lc X _ (HS.out.later (by repeat (first | (with_reducible exact Below.refl _ _) | (with_reducible refine Below.drew ?_) | (with_reducible refine below_drewN ?_ _) | ((with_reducible refine below_alloc ?_ ?_ _); · (first | exact Nat.le_refl _ | omega | (simp; done) | (simp; omega) | (simp at *; omega))) | ((with_reducible refine below_set ?_ ?_ _); · (first | exact Nat.le_refl _ | omega | (simp; done) | (simp; omega) | (simp at *; omega))) | ((with_reducible refine below_via (by with_reducible assumption) ?_ ?_); · (first | exact Nat.le_refl _ | omega | (simp; done) | (simp; omega) | (simp at *; omega)))))) (HL.out.later (by repeat (first | (with_reducible exact Below.refl _ _) | (with_reducible refine Below.drew ?_) | (with_reducible refine below_drewN ?_ _) | ((with_reducible refine below_alloc ?_ ?_ _); · (first | exact Nat.le_refl _ | omega | (simp; done) | (simp; omega) | (simp at *; omega))) | ((with_reducible refine below_set ?_ ?_ _); · (first | exact Nat.le_refl _ | omega | (simp; done) | (simp; omega) | (simp at *; omega))) | ((with_reducible refine below_via (by with_reducible assumption) ?_ ?_); · (first | exact Nat.le_refl _ | omega | (simp; done) | (simp; omega) | (simp at *; omega)))))) hn).mono ?_; rintro e w1 ⟨rfl, hb1⟩; have HB1 := Lib.hid (show Below W.heap.size W w1 from (by repeat (first | (with_reducible exact Below.refl _ _) | (with_reducible refine Below.drew ?_) | (with_reducible refine below_drewN ?_ _) | ((with_reducible refine below_alloc ?_ ?_ _); · (first | exact Nat.le_refl _ | omega | (simp; done) | (simp; omega) | (simp at *; omega))) | ((with_reducible refine below_set ?_ ?_ _); · (first | exact Nat.le_refl _ | omega | (simp; done) | (simp; omega) | (simp at *; omega))) | ((with_reducible refine below_via (by with_reducible assumption) ?_ ?_); · (first | exact Nat.le_refl _ | omega | (simp; done) | (simp; omega) | (simp at *; omega)))))); have hs1 := hb1.size; simp only [World.size_alloc] at hs1; have HA := Lib.hid (show w1.cell? ⟨W.heap.size, 0, none⟩ = some (.slice pA st.n pc) ∧ w1.cell? ⟨W.heap.size, 1, none⟩ = some (.slice gA st.m gc) ∧ w1.cell? ⟨W.heap.size, 2, none⟩ = some (.int .i64 st.lots) from ⟨cell_below_of hb1 (by (repeat' refine And.intro ?_ ?_) <;> (repeat (first | (with_reducible assumption) | (simp; done) | (with_reducible refine cell_drew_of ?_) | (with_reducible refine cell_drewN_of ?_) | (with_reducible refine cell_below_of (by with_reducible assumption) ?_) | ((with_reducible refine cell_new_of ?_ ?_) <;> (first | (with_reducible rfl) | (simp; done))) | ((with_reducible refine fro_new_of ?_) <;> (first | (with_reducible rfl) | (simp; done))) | (with_reducible refine cell_alloc_of _ ?_) | (with_reducible refine cell_set_of _ (by (first | exact Nat.le_refl _ | omega | (simp; done) | (simp; omega))) ?_) | (with_reducible refine fro_drew_of ?_) | (with_reducible refine fro_drewN_of ?_) | (with_reducible refine fro_below_of (by with_reducible assumption) (by (first | exact Nat.le_refl _ | omega | (simp; done) | (simp; omega))) ?_) | (with_reducible refine fro_alloc_of _ (by (first | exact Nat.le_refl _ | omega | (simp; done) | (simp; omega))) ?_) | (with_reducible refine fro_set_of _ ?_)))), cell_below_of hb1 (by (repeat' refine And.intro ?_ ?_) <;> (repeat (first | (with_reducible assumption) | (simp; done) | (with_reducible refine cell_drew_of ?_) | (with_reducible refine cell_drewN_of ?_) | (with_reducible refine cell_below_of (by with_reducible assumption) ?_) | ((with_reducible refine cell_new_of ?_ ?_) <;> (first | (with_reducible rfl) | (simp; done))) | ((with_reducible refine fro_new_of ?_) <;> (first | (with_reducible rfl) | (simp; done))) | (with_reducible refine cell_alloc_of _ ?_) | (with_reducible refine cell_set_of _ (by (first | exact Nat.le_refl _ | omega | (simp; done) | (simp; omega))) ?_) | (with_reducible refine fro_drew_of ?_) | (with_reducible refine fro_drewN_of ?_) | (with_reducible refine fro_below_of (by with_reducible assumption) (by (first | exact Nat.le_refl _ | omega | (simp; done) | (simp; omega))) ?_) | (with_reducible refine fro_alloc_of _ (by (first | exact Nat.le_refl _ | omega | (simp; done) | (simp; omega))) ?_) | (with_reducible refine fro_set_of _ ?_)))), cell_below_of hb1 (by (repeat' refine And.intro ?_ ?_) <;> (repeat (first | (with_reducible assumption) | (simp; done) | (with_reducible refine cell_drew_of ?_) | (with_reducible refine cell_drewN_of ?_) | (with_reducible refine cell_below_of (by with_reducible assumption) ?_) | ((with_reducible refine cell_new_of ?_ ?_) <;> (first | (with_reducible rfl) | (simp; done))) | ((with_reducible refine fro_new_of ?_) <;> (first | (with_reducible rfl) | (simp; done))) | (with_reducible refine cell_alloc_of _ ?_) | (with_reducible refine cell_set_of _ (by (first | exact Nat.le_refl _ | omega | (simp; done) | (simp; omega))) ?_) | (with_reducible refine fro_drew_of ?_) | (with_reducible refine fro_drewN_of ?_) | (with_reducible refine fro_below_of (by with_reducible assumption) (by (first | exact Nat.le_refl _ | omega | (simp; done) | (simp; omega))) ?_) | (with_reducible refine fro_alloc_of _ (by (first | exact Nat.le_refl _ | omega | (simp; done) | (simp; omega))) ?_) | (with_reducible refine fro_set_of _ ?_))))⟩)
  clear hb1
  by_cases h0 : st.askErr ln X = 0
  · have hnb : (st.askErr ln X != 0) = false := by simpa using h0
    have HR0 : Hid (st.keptR ln X opened most = if inB opened 0 (bagOf X ln).size = false ∨ most < 0 then (false, 4) else (decide (min opened (st.hi (bagOf X ln)) ≤ most), 0)) := Lib.hid (by unfold St.keptR; rw [if_neg (by simp [h0])])
    have HST := Lib.hid (St.askErr_ok h0).1; have HX := Lib.hid (ask_rng h0); obtain rfl : ln = st.n := (St.askErr_ok h0).2.2
    obtain ⟨a0, a1, a2⟩ := HA.out
    have hs1' := HB1.out.size
    clear h0
    cases h1 : inB opened 0 (bagOf X st.n).size with
    | false =>
      have HR : Hid (st.keptR st.n X opened most = (false, 4)) := Lib.hid (by rw [HR0.out, if_pos (.inl h1)])
      go_wp2_with (first | (go_at_call 86; refine (rsize_any lA st.n lc X _ (HL.out.later HB1.out) (by have := HST.out.n4; omega) (fun k hk => by have := HX.out k hk; have := (HST.out.pk k hk).1; omega)).mono ?_; rintro e w' ⟨rfl, rfl⟩; rw [← bagOf_size HST.out.n4]) | (go_at_call 82; refine (off_any _ _ _ _).mono ?_; rintro e w' ⟨rfl, rfl⟩))
      go_ret2
      exact ⟨by rw [HR.out]; rfl, HB1.out⟩
    | true =>
      by_cases h2 : most < 0
      · have HR : Hid (st.keptR st.n X opened most = (false, 4)) := Lib.hid (by rw [HR0.out, if_pos (.inr h2)])
        go_wp2_with (first | (go_at_call 86; refine (rsize_any lA st.n lc X _ (HL.out.later HB1.out) (by have := HST.out.n4; omega) (fun k hk => by have := HX.out k hk; have := (HST.out.pk k hk).1; omega)).mono ?_; rintro e w' ⟨rfl, rfl⟩; rw [← bagOf_size HST.out.n4]) | (go_at_call 82; refine (off_any _ _ _ _).mono ?_; rintro e w' ⟨rfl, rfl⟩))
        go_ret2
        exact ⟨by rw [HR.out]; rfl, HB1.out⟩
      · have HR : Hid (st.keptR st.n X opened most = (decide (min opened (st.hi (bagOf X st.n)) ≤ most), 0)) := Lib.hid (by rw [HR0.out, if_neg (by rw [h1]; simp; omega)])
        have hin := rng_in HST.out HX.out
        have bd1 := St.hi_bd HST.out hin
        have bd2 := St.size_bd HST.out hin
        have hop : 0 ≤ opened ∧ opened ≤ (bagOf X st.n).size := by simpa [inB] using h1
        clear hin
        go_wp2_with (first | (go_at_call 86; refine (rsize_any lA st.n lc X _ (HL.out.later HB1.out) (by have := HST.out.n4; omega) (fun k hk => by have := HX.out k hk; have := (HST.out.pk k hk).1; omega)).mono ?_; rintro e w' ⟨rfl, rfl⟩; rw [← bagOf_size HST.out.n4]) | (go_at_call 82; refine (off_any _ _ _ _).mono ?_; rintro e w' ⟨rfl, rfl⟩))
        clear a0 a1 a2
        go_loopw [11] (fun i wr => ∃ k : Nat, (k : Int) ≤ st.hi (bagOf X st.n) + 1 ∧ i = .int .i64 k ∧ Hid (∀ j : Nat, j < k → ¬ ((j : Int) ≤ opened ∧ most < (j : Int))) ∧ Hid (Below W.heap.size W wr) ∧ Hid (wr.cell? ⟨W.heap.size, 0, none⟩ = some (.slice pA st.n pc) ∧ wr.cell? ⟨W.heap.size, 1, none⟩ = some (.slice gA st.m gc) ∧ wr.cell? ⟨W.heap.size, 2, none⟩ = some (.int .i64 st.lots))) (fun i _ => (st.hi (bagOf X st.n) + 1 - intOf i).toNat)
        case atStart => exact ⟨0, by omega, rfl, Lib.hid (fun j hj => absurd hj (by omega)), HB1, HA⟩
        case round =>
          obtain ⟨k, hk, rfl, hall, hbw, hab⟩ := hrel
          obtain ⟨a0, a1, a2⟩ := hab.out
          have hsw := hbw.out.size
          go_wp2_with fail
          refine (rspan_any st HST.out B pA gA pc gc lA lc X _ (HS.out.later (hbw.out.mono hB)) (HL.out.later hbw.out) HX.out).mono ?_
          rintro e w2 ⟨rfl, hb2⟩
          have HB2 := Lib.hid (hbw.out.trans (hb2.mono hsw))
          have hlb := World.block_lt_of_cell? wr _ a0
          have HA2 := Lib.hid (show w2.cell? ⟨W.heap.size, 0, none⟩ = some (.slice pA st.n pc) ∧ w2.cell? ⟨W.heap.size, 1, none⟩ = some (.slice gA st.m gc) ∧ w2.cell? ⟨W.heap.size, 2, none⟩ = some (.int .i64 st.lots) from ⟨cell_below_of hb2 a0, cell_below_of hb2 a1, cell_below_of hb2 a2⟩)
          clear hb2 a0 a1 a2
          by_cases hlt : (k : Int) ≤ st.hi (bagOf X st.n)
          · by_cases h3 : (k : Int) ≤ opened
            · by_cases h4 : most < (k : Int)
              · have HF : Hid (decide (min opened (st.hi (bagOf X st.n)) ≤ most) = false) := Lib.hid (by simp; omega)
                go_wp2_with fail
                go_ret2
                exact ⟨by rw [HR.out, HF.out]; rfl, HB2.out⟩
              · go_wp2_with fail
                go_roundw
                case rel => exact ⟨k + 1, by omega, by go_num, Lib.hid (fun j hj => by rcases Nat.lt_or_ge j k with h | h; exact hall.out j h; rw [show j = k from by omega]; omega), HB2, HA2⟩
                case measure => simp [intOf]; omega
            · go_wp2_with fail
              go_roundw
              case rel => exact ⟨k + 1, by omega, by go_num, Lib.hid (fun j hj => by rcases Nat.lt_or_ge j k with h | h; exact hall.out j h; rw [show j = k from by omega]; omega), HB2, HA2⟩
              case measure => simp [intOf]; omega
          · have HF : Hid (decide (min opened (st.hi (bagOf X st.n)) ≤ most) = true) := Lib.hid (by
              have h5 := hall.out (min opened (st.hi (bagOf X st.n))).toNat (by omega)
              simp
              omega)
            go_wp2_with fail
            go_ret2
            exact ⟨by rw [HR.out, HF.out]; rfl, HB2.out⟩
  · have hnb : (st.askErr ln X != 0) = true := by simpa using h0
    have HR : Hid (st.keptR ln X opened most = (false, st.askErr ln X)) := Lib.hid (by unfold St.keptR; rw [if_pos (by simpa using h0)])
    clear h0
    go_wp2_with fail
    go_ret2
    exact ⟨by rw [HR.out]; rfl, HB1.out⟩
end Go.Proofs.Ytegmomappbehcaa

set_option linter.unusedSimpArgs false
set_option linter.unusedVariables false
namespace Go.Proofs.Ytegmomappbehcaa
open Go.RowKit Go.Shelf

theorem choose_step_val (st : St) (k : Nat) (left : Bag) (l : List Bag) (b : Bag) (hb : st.brings b ≠ 0) :
    (st.choOf k left (l ++ [b])).2 = max (st.choOf k left l).2 (st.brings b + (st.choose k (left.less b)).2) := by
  rw [St.choOf_snoc]
  unfold St.chStep
  rw [if_neg hb]
  by_cases h : (st.choOf k left l).2 < st.brings b + (st.choose k (left.less b)).2
  · rw [if_pos (by simpa using h)]
    show st.brings b + (st.choose k (left.less b)).2 = _
    omega
  · rw [if_neg (by simpa using h)]
    omega
theorem choose_skip (st : St) (k : Nat) (left : Bag) (l : List Bag) (b : Bag) (hb : st.brings b = 0) : st.choOf k left (l ++ [b]) = st.choOf k left l := by
  rw [St.choOf_snoc]
  unfold St.chStep
  rw [if_pos hb]
theorem pre_in {st : St} (h4 : st.n ≤ 4) {left : Bag} (hl : left.in_ st.all) : pre left st.n = bagsOf left := pre_n h4 (fun k h1 h2 => by
  have := Bag.in_at hl k
  rw [st.all_at k h2, if_neg (by omega)] at this
  omega)
theorem less_at (x y : Bag) : ∀ k, k < 4 → (x.less y).at k = x.at k - y.at k
  | 0, _ => rfl
  | 1, _ => rfl
  | 2, _ => rfl
  | 3, _ => rfl
  | k + 4, h => absurd h (by omega)

/-- what earn gives -/
def EarnOk (st : St) (k : Nat) : Prop := ∀ (left : Bag) (B : Nat) (pA gA : Option Addr) (pc gc : Nat) (lA : Option Addr) (lc : Nat) (W : World), left.in_ st.all → StRow W B st pA pc gA gc → IntRow W W.heap.size lA st.n left.at →
  Calls Try.prog 122 #[stV pA st.n pc gA st.m gc st.lots, .slice lA st.n lc, .int .i64 k] W fun e W' => e = .returned (.int .i64 (st.choose k left).2) ∧ Below W.heap.size W W'

set_option maxRecDepth 100000 in
set_option maxHeartbeats 1000000 in
theorem earn_zero (st : St) : EarnOk st 0 := by
  intro left B pA gA pc gc lA lc W hl hs hr
  go_enter Try.func122, Try.ntmps122
  go_wp2_with fail
  go_ret
  exact ⟨rfl, (by repeat (first | (with_reducible exact Below.refl _ _) | (with_reducible refine Below.drew ?_) | (with_reducible refine below_drewN ?_ _) | ((with_reducible refine below_alloc ?_ ?_ _); · (first | exact Nat.le_refl _ | omega | (simp; done) | (simp; omega) | (simp at *; omega))) | ((with_reducible refine below_set ?_ ?_ _); · (first | exact Nat.le_refl _ | omega | (simp; done) | (simp; omega) | (simp at *; omega))) | ((with_reducible refine below_via (by with_reducible assumption) ?_ ?_); · (first | exact Nat.le_refl _ | omega | (simp; done) | (simp; omega) | (simp at *; omega)))))⟩

set_option maxRecDepth 100000 in
set_option maxHeartbeats 4000000 in
theorem earn_step (st : St) (hst : st.ok) (d : Nat) (hd : d ≤ 2) (ih : EarnOk st d) : EarnOk st (d + 1) := by
  intro left B pA gA pc gc lA lc W hl hs hr
  have HS := Lib.hid hs
  have HL := Lib.hid hr
  have HI := Lib.hid hl
  have HO := Lib.hid hst
  have IH := Lib.hid ih
  have hB := hs.lt
  have n1 := hst.n1
  have n4 := hst.n4
  clear hs hr hst ih
  obtain ⟨i0, hi, hz0, hz1, hz2⟩ := info_parts infoInt
  have hd0 : (((d + 1 : Nat) : Int) == 0) = false := by rw [beq_eq_false_iff_ne]; omega
  have hd1 : IntKind.i64.wrap (((d + 1 : Nat) : Int) - 1) = (d : Int) := by rw [IntWalk.i64_in _ (by omega)]; omega
  obtain ⟨dd, hdd⟩ : ∃ dd, ((d + 1 : Nat) : Int) = dd := ⟨_, rfl⟩
  rw [hdd] at hd0 hd1 ⊢
  clear hdd
  go_enter Try.func122, Try.ntmps122
  go_wp2_with fail
  have hb0 : Below W.heap.size W (W.alloc (.cells #[.slice pA st.n pc, .slice gA st.m gc, .int .i64 st.lots] 34)) := (by repeat (first | (with_reducible exact Below.refl _ _) | (with_reducible refine Below.drew ?_) | (with_reducible refine below_drewN ?_ _) | ((with_reducible refine below_alloc ?_ ?_ _); · (first | exact Nat.le_refl _ | omega | (simp; done) | (simp; omega) | (simp at *; omega))) | ((with_reducible refine below_set ?_ ?_ _); · (first | exact Nat.le_refl _ | omega | (simp; done) | (simp; omega) | (simp at *; omega))) | ((with_reducible refine below_via (by with_reducible assumption) ?_ ?_); · (first | exact Nat.le_refl _ | omega | (simp; done) | (simp; omega) | (simp at *; omega)))))
  refine (rlots_any st.n n4 left (fun k hk => by have := Bag.in_at HI.out k; have := St.all_bd HO.out k; omega) lA lc _ (HL.out.later hb0)).mono ?_
  rintro e w1 ⟨⟨LA, lcap, rfl, hrows, hlc⟩, hb1⟩
  rw [pre_in n4 HI.out] at hrows hlc ⊢
  have HB1 := Lib.hid (show Below W.heap.size W w1 from (by repeat (first | (with_reducible exact Below.refl _ _) | (with_reducible refine Below.drew ?_) | (with_reducible refine below_drewN ?_ _) | ((with_reducible refine below_alloc ?_ ?_ _); · (first | exact Nat.le_refl _ | omega | (simp; done) | (simp; omega) | (simp at *; omega))) | ((with_reducible refine below_set ?_ ?_ _); · (first | exact Nat.le_refl _ | omega | (simp; done) | (simp; omega) | (simp at *; omega))) | ((with_reducible refine below_via (by with_reducible assumption) ?_ ?_); · (first | exact Nat.le_refl _ | omega | (simp; done) | (simp; omega) | (simp at *; omega))))))
  have hs1 := hb1.size
  simp only [World.size_alloc] at hs1
  have HA := Lib.hid (show w1.cell? ⟨W.heap.size, 0, none⟩ = some (.slice pA st.n pc) ∧ w1.cell? ⟨W.heap.size, 1, none⟩ = some (.slice gA st.m gc) ∧ w1.cell? ⟨W.heap.size, 2, none⟩ = some (.int .i64 st.lots) from ⟨cell_below_of hb1 (by (repeat' refine And.intro ?_ ?_) <;> (repeat (first | (with_reducible assumption) | (simp; done) | (with_reducible refine cell_drew_of ?_) | (with_reducible refine cell_drewN_of ?_) | (with_reducible refine cell_below_of (by with_reducible assumption) ?_) | ((with_reducible refine cell_new_of ?_ ?_) <;> (first | (with_reducible rfl) | (simp; done))) | ((with_reducible refine fro_new_of ?_) <;> (first | (with_reducible rfl) | (simp; done))) | (with_reducible refine cell_alloc_of _ ?_) | (with_reducible refine cell_set_of _ (by (first | exact Nat.le_refl _ | omega | (simp; done) | (simp; omega))) ?_) | (with_reducible refine fro_drew_of ?_) | (with_reducible refine fro_drewN_of ?_) | (with_reducible refine fro_below_of (by with_reducible assumption) (by (first | exact Nat.le_refl _ | omega | (simp; done) | (simp; omega))) ?_) | (with_reducible refine fro_alloc_of _ (by (first | exact Nat.le_refl _ | omega | (simp; done) | (simp; omega))) ?_) | (with_reducible refine fro_set_of _ ?_)))), cell_below_of hb1 (by (repeat' refine And.intro ?_ ?_) <;> (repeat (first | (with_reducible assumption) | (simp; done) | (with_reducible refine cell_drew_of ?_) | (with_reducible refine cell_drewN_of ?_) | (with_reducible refine cell_below_of (by with_reducible assumption) ?_) | ((with_reducible refine cell_new_of ?_ ?_) <;> (first | (with_reducible rfl) | (simp; done))) | ((with_reducible refine fro_new_of ?_) <;> (first | (with_reducible rfl) | (simp; done))) | (with_reducible refine cell_alloc_of _ ?_) | (with_reducible refine cell_set_of _ (by (first | exact Nat.le_refl _ | omega | (simp; done) | (simp; omega))) ?_) | (with_reducible refine fro_drew_of ?_) | (with_reducible refine fro_drewN_of ?_) | (with_reducible refine fro_below_of (by with_reducible assumption) (by (first | exact Nat.le_refl _ | omega | (simp; done) | (simp; omega))) ?_) | (with_reducible refine fro_alloc_of _ (by (first | exact Nat.le_refl _ | omega | (simp; done) | (simp; omega))) ?_) | (with_reducible refine fro_set_of _ ?_)))), cell_below_of hb1 (by (repeat' refine And.intro ?_ ?_) <;> (repeat (first | (with_reducible assumption) | (simp; done) | (with_reducible refine cell_drew_of ?_) | (with_reducible refine cell_drewN_of ?_) | (with_reducible refine cell_below_of (by with_reducible assumption) ?_) | ((with_reducible refine cell_new_of ?_ ?_) <;> (first | (with_reducible rfl) | (simp; done))) | ((with_reducible refine fro_new_of ?_) <;> (first | (with_reducible rfl) | (simp; done))) | (with_reducible refine cell_alloc_of _ ?_) | (with_reducible refine cell_set_of _ (by (first | exact Nat.le_refl _ | omega | (simp; done) | (simp; omega))) ?_) | (with_reducible refine fro_drew_of ?_) | (with_reducible refine fro_drewN_of ?_) | (with_reducible refine fro_below_of (by with_reducible assumption) (by (first | exact Nat.le_refl _ | omega | (simp; done) | (simp; omega))) ?_) | (with_reducible refine fro_alloc_of _ (by (first | exact Nat.le_refl _ | omega | (simp; done) | (simp; omega))) ?_) | (with_reducible refine fro_set_of _ ?_))))⟩)
  have HROWS := Lib.hid hrows
  have hLl := bagsOf_length (fun k hk => show left.at k ≤ 6 by have := Bag.in_at HI.out k; have := St.all_bd HO.out k; omega)
  have HIN : Hid (∀ b, b ∈ bagsOf left → b.in_ left) := Lib.hid (fun b hb => mem_bagsOf.1 hb)
  have HCH : Hid ((st.choose (d + 1) left).2 = (st.choOf d left (bagsOf left)).2) := Lib.hid (by rw [St.choose_succ])
  generalize hL : bagsOf left = L at *
  clear hb1 hrows hL hb0
  go_wp2_with fail
  go_loopw [7, 9] (fun v i wr => ∃ (k : Nat), k ≤ L.length ∧ i = .int .i64 k ∧ v = .int .i64 (st.choOf d left (L.take k)).2 ∧ Hid (Below w1.heap.size w1 wr)) (fun _ i _ => L.length - (intOf i).toNat)
  case atStart => exact ⟨0, by omega, rfl, rfl, Lib.hid (Below.refl _ _)⟩
  case round =>
    obtain ⟨k, hk, rfl, rfl, hbw⟩ := hrel
    have hsw := hbw.out.size
    have HBW := Lib.hid (HB1.out.trans (hbw.out.mono (by omega)))
    have hsW := HBW.out.size
    obtain ⟨a0, a1, a2⟩ := HA.out
    have a0 := cell_same (hbw.out.block _ (by omega)) a0
    have a1 := cell_same (hbw.out.block _ (by omega)) a1
    have a2 := cell_same (hbw.out.block _ (by omega)) a2
    by_cases hlt : k < L.length
    · obtain ⟨x, hx⟩ : ∃ x, L[k]? = some x := ⟨L[k], List.getElem?_eq_getElem hlt⟩
      obtain ⟨lb, lo, v, rfl, hlb, l0, rA, rc, rfl, hrc, hri, _⟩ := HROWS.out k x hx
      have HL0 := Lib.hid l0
      have l0 := cell_same (hbw.out.block _ hlb) l0
      have hk0 : (0 : Int) ≤ (k : Int) := by omega
      have hkn : (k : Int) < (L.length : Int) := by omega
      have HRI := Lib.hid hri
      have hxl := HIN.out x (List.mem_of_getElem? hx)
      have hxi := Bag.in_trans hxl HI.out
      have HXL := Lib.hid hxl
      have HXI := Lib.hid hxi
      have HXR := Lib.hid (fun k hk => St.in_all hxi k hk (by omega))
      have HXB := Lib.hid (bagOf_at_in n4 hxi)
      have HTK : Hid (L.take (k + 1) = L.take k ++ [x]) := Lib.hid (by rw [List.take_add_one, hx]; rfl)
      have bdb := St.brings_bd HO.out hxi
      have bdc := St.choose_bd HO.out d (left.less x) (Bag.in_trans (Bag.less_in hxl) HI.out)
      have hcb := (St.choOf_bd HO.out d HI.out (l := L.take k) (fun b hb => HIN.out b (List.mem_of_mem_take hb))).1
      have HLT := Lib.hid hlt
      clear hri hx hxl hxi
      go_wp2_with fail
      refine region_qbw (by kernel_rfl) (by kernel_rfl) ?_
      have x0 := cell_regrown a0
      have x1 := cell_regrown a1
      have x2 := cell_regrown a2
      have x3 := cell_regrown l0
      clear a0 a1 a2 l0
      repeat (first | go_big_quiet_step ((go_at_call 119; exact Calls.regrown_of (rbrings_any st HO.out B pA gA pc gc rA rc x.at _ (HS.out.later ((HBW.out.trans ((below_regrown _ _ _).mono hsW)).mono hB)) (HRI.out.later (hbw.out.trans ((below_regrown _ _ _).mono hsw))) HXR.out))) | quiet_step ((go_at_call 119; exact Calls.regrown_of (rbrings_any st HO.out B pA gA pc gc rA rc x.at _ (HS.out.later ((HBW.out.trans ((below_regrown _ _ _).mono hsW)).mono hB)) (HRI.out.later (hbw.out.trans ((below_regrown _ _ _).mono hsw))) HXR.out))))
      refine wpQuiet_nil ?_; intro wq hbq
      clear x0 x1 x2 x3
      rw [HXB.out]
      have hbw2 := Lib.hid (hbw.out.trans (hbq.mono hsw))
      have hsq := hbq.size
      clear hbq
      by_cases h0 : st.brings x = 0
      · have hb : (st.brings x == 0) = true := by simpa using h0
        have HNEW : Hid ((st.choOf d left (L.take (k + 1))).2 = (st.choOf d left (L.take k)).2) := Lib.hid (by rw [HTK.out, choose_skip st d left _ x h0])
        clear h0
        go_wp2_with fail
        go_roundw
        case rel => exact ⟨k + 1, HLT.out, by go_num, by rw [HNEW.out], hbw2⟩
        case measure => have := HLT.out; simp [intOf]; omega
      · have hb : (st.brings x == 0) = false := by simpa using h0
        have HNEW : Hid ((st.choOf d left (L.take (k + 1))).2 = max (st.choOf d left (L.take k)).2 (st.brings x + (st.choose d (left.less x)).2)) := Lib.hid (by rw [HTK.out, choose_step_val st d left _ x h0])
        clear h0
        obtain ⟨wo, rfl⟩ : ∃ wo, wo = wq := ⟨_, rfl⟩
        go_wp2_with fail
        go_loopw [11, 12] (fun v i wz => ∃ (j : Nat), j ≤ st.n ∧ i = .int .i64 j ∧ Hid (wz.ownsRow wo.heap.size 3 1 v j (numCells (left.less x).at j)) ∧ Hid (Below wo.heap.size wo wz)) (fun _ i _ => st.n - (intOf i).toNat)
        case atStart => exact ⟨0, by omega, rfl, Lib.hid (World.ownsRow_nil _ _ _ _), Lib.hid (Below.refl _ _)⟩
        case round =>
          obtain ⟨j, hj, rfl, hown, hbz⟩ := hrel
          have hsz := hbz.out.size
          have hbwz := Lib.hid (hbw2.out.trans (hbz.out.mono (by omega)))
          have HWZ := Lib.hid (HB1.out.trans (hbwz.out.mono (by omega)))
          have hsZ := HWZ.out.size
          by_cases hltj : j < st.n
          · obtain ⟨cb, co, rfl, hcb', c0⟩ := (HL.out.below HWZ.out) j hltj
            have m0 := cell_same (hbwz.out.block _ hlb) HL0.out
            obtain ⟨rb, ro, rfl, hrb, r0⟩ := HRI.out j hltj
            have r0 := cell_same (hbwz.out.block _ hrb) r0
            have hj0 : (0 : Int) ≤ (j : Int) := by omega
            have hjn : (j : Int) < (st.n : Int) := by omega
            have hl6 : 0 ≤ left.at j ∧ left.at j ≤ 6 := by have := Bag.in_at HI.out j; have := St.all_bd HO.out j; omega
            have hx6 := Bag.in_at HXL.out j
            have ew : IntKind.i64.wrap (left.at j - x.at j) = left.at j - x.at j := IntWalk.i64_in _ (by omega)
            have HLA := Lib.hid (less_at left x j (by omega))
            have hv1 := hown.out.lt
            have hsw1 := hbwz.out.size
            have hwo1 := hbw2.out.size
            clear hl6 hx6
            go_upto_region 14 with fail
            go_region_held_law (fun w' => w'.cell? ⟨cb, co + j, none⟩ = some (.int .i64 (left.at j)) ∧ w'.cell? ⟨lb, lo + k, none⟩ = some (.slice (some ⟨rb, ro, none⟩) st.n rc) ∧ w'.cell? ⟨rb, ro + j, none⟩ = some (.int .i64 (x.at j))) (first | (go_split_ands; (refine ⟨?_, ?_, ?_⟩ <;> (refine (hgr6.cell_far _ ?_ ?_).trans ?_; (· (simp; omega)); (· (intro e; have := (hv1 _ e.symm).1; (try dsimp only at this); omega)); (· (repeat (first | (with_reducible assumption) | (simp; done) | (with_reducible refine cell_drew_of ?_) | (with_reducible refine cell_drewN_of ?_) | (with_reducible refine cell_below_of (by with_reducible assumption) ?_) | ((with_reducible refine cell_new_of ?_ ?_) <;> (first | (with_reducible rfl) | (simp; done))) | ((with_reducible refine fro_new_of ?_) <;> (first | (with_reducible rfl) | (simp; done))) | (with_reducible refine cell_alloc_of _ ?_) | (with_reducible refine cell_set_of _ (by (first | exact Nat.le_refl _ | omega | (simp; done) | (simp; omega))) ?_) | (with_reducible refine fro_drew_of ?_) | (with_reducible refine fro_drewN_of ?_) | (with_reducible refine fro_below_of (by with_reducible assumption) (by (first | exact Nat.le_refl _ | omega | (simp; done) | (simp; omega))) ?_) | (with_reducible refine fro_alloc_of _ (by (first | exact Nat.le_refl _ | omega | (simp; done) | (simp; omega))) ?_) | (with_reducible refine fro_set_of _ ?_)))))); done) | ((go_split_ands; (repeat' refine And.intro ?_ ?_) <;> (repeat (first | (with_reducible assumption) | (simp; done) | (with_reducible refine cell_drew_of ?_) | (with_reducible refine cell_drewN_of ?_) | (with_reducible refine cell_below_of (by with_reducible assumption) ?_) | ((with_reducible refine cell_new_of ?_ ?_) <;> (first | (with_reducible rfl) | (simp; done))) | ((with_reducible refine fro_new_of ?_) <;> (first | (with_reducible rfl) | (simp; done))) | (with_reducible refine cell_alloc_of _ ?_) | (with_reducible refine cell_set_of _ (by (first | exact Nat.le_refl _ | omega | (simp; done) | (simp; omega))) ?_) | (with_reducible refine fro_drew_of ?_) | (with_reducible refine fro_drewN_of ?_) | (with_reducible refine fro_below_of (by with_reducible assumption) (by (first | exact Nat.le_refl _ | omega | (simp; done) | (simp; omega))) ?_) | (with_reducible refine fro_alloc_of _ (by (first | exact Nat.le_refl _ | omega | (simp; done) | (simp; omega))) ?_) | (with_reducible refine fro_set_of _ ?_)))))) ((refine step_append_lies _ (by rfl) (.tmp 37) (.tmp 50) 26 (by rfl) wo.heap.size 3 i0 (.int .i64 0) 1 8 ints_under hi hz0 hz1 hz2 (by rfl) (by decide) u11 j (numCells (left.less x).at j) (by rfl) (owns_later hown.out (by repeat (first | (with_reducible exact Below.refl _ _) | (with_reducible assumption) | (with_reducible refine Below.drew ?_) | ((with_reducible refine below_alloc ?_ ?_ _); (· (first | exact Nat.le_refl _ | omega | (dsimp only; omega) | (simp only [World.size_alloc, World.size_drew, World.heap_drewN]; omega) | (simp; omega)))) | ((with_reducible refine below_set ?_ ?_ _); (· (first | exact Nat.le_refl _ | omega | (dsimp only; omega) | (simp only [World.size_alloc, World.size_drew, World.heap_drewN]; omega) | (simp; omega)))) | ((with_reducible refine below_via (by with_reducible assumption) ?_ ?_); (· (first | exact Nat.le_refl _ | omega | (dsimp only; omega) | (simp only [World.size_alloc, World.size_drew, World.heap_drewN]; omega) | (simp; omega))))))) ⟨wr.heap.size, 0, none⟩ 1 1 [.int .i64 (left.at j - x.at j)] (by rfl) rfl (fun jj uu hjj => new_cells (w := wr) (t := 3) (cs := [.int .i64 (left.at j - x.at j)]) jj uu hjj) (by intro u hu; simp only [List.mem_cons, List.not_mem_nil, or_false] at hu; subst hu; rfl) (by omega) (by unfold maxLen; omega) (by omega) (by simp; omega) (wr.heap.size + 1) (by simp) ?_; intro g cap w6 hown6 hgr6 hat6 hlt6))
            have HB6 : Hid (Below wo.heap.size wo w6) := Lib.hid (hbz.out.trans ⟨hgr6.os, hgr6.tape, hgr6.output, by have := hgr6.size; simp at this; omega, fun i hi => (hgr6.block i (by simp; omega) (fun e => by have := (hv1 i e.symm).1; omega)).trans (Below.heap_alloc _ _ _ (by omega))⟩)
            have HOWN6 : Hid (w6.ownsRow wo.heap.size 3 1 (.slice (some ⟨g, 0, none⟩) (j + 1) cap) (j + 1) (numCells (left.less x).at (j + 1))) := Lib.hid (by rw [numCells_succ, HLA.out]; exact hown6)
            clear hown6 hgr6 hat6 hlt6 c0 m0 r0
            go_wp2_with fail
            go_roundw
            case rel => exact ⟨j + 1, by omega, by go_num, HOWN6, HB6⟩
            case measure => simp [intOf]; omega
          · have hj' : j = st.n := by omega
            have hgej : ¬ (j : Int) < (st.n : Int) := by omega
            obtain ⟨A, c, rfl, hr, hcl, _⟩ := intOwn_of (show wr.ownsRow wo.heap.size 3 1 u11 st.n (numCells (left.less x).at st.n) by rw [hj'] at hown; exact hown.out)
            have HR := Lib.hid hr
            have m0 := cell_same (hbwz.out.block _ (by omega)) HA.out.1
            have m1 := cell_same (hbwz.out.block _ (by omega)) HA.out.2.1
            have m2 := cell_same (hbwz.out.block _ (by omega)) HA.out.2.2
            clear hr hj' hown
            go_wp2_with fail
            refine (IH.out (left.less x) B pA gA pc gc A c _ (Bag.in_trans (Bag.less_in HXL.out) HI.out) (HS.out.later (HWZ.out.mono hB)) HR.out).mono ?_
            rintro e w7 ⟨rfl, hb7⟩
            have hbw7 := Lib.hid (hbwz.out.trans (hb7.mono (by omega)))
            clear hb7 m0 m1 m2
            have ewa : IntKind.i64.wrap (st.brings x + (st.choose d (left.less x)).2) = st.brings x + (st.choose d (left.less x)).2 := IntWalk.i64_in _ (by omega)
            generalize (st.choose d (left.less x)).2 = cz at *
            generalize (st.choOf d left (L.take k)).2 = oz at *
            by_cases hgt : oz < st.brings x + cz
            · have HV : Hid ((st.choOf d left (L.take (k + 1))).2 = st.brings x + cz) := Lib.hid (by rw [HNEW.out]; omega)
              go_wp2_with fail
              go_roundw
              case rel => exact ⟨k + 1, HLT.out, by go_num, by rw [HV.out], hbw7⟩
              case measure => have := HLT.out; simp [intOf]; omega
            · have HV : Hid ((st.choOf d left (L.take (k + 1))).2 = oz) := Lib.hid (by rw [HNEW.out]; omega)
              go_wp2_with fail
              go_roundw
              case rel => exact ⟨k + 1, HLT.out, by go_num, by rw [HV.out], hbw7⟩
              case measure => have := HLT.out; simp [intOf]; omega
    · have hk' : k = L.length := by omega
      have hge : ¬ (k : Int) < (L.length : Int) := by omega
      have HF : Hid ((st.choOf d left (L.take k)).2 = (st.choose (d + 1) left).2) := Lib.hid (by rw [hk', List.take_length, HCH.out])
      clear hk'
      go_wp2_with fail
      go_ret
      exact ⟨by rw [← HF.out]; rfl, HBW.out⟩
theorem earn_any (st : St) (hst : st.ok) : ∀ d, d ≤ 3 → EarnOk st d
  | 0, _ => earn_zero st
  | d + 1, h => earn_step st hst d (by omega) (earn_any st hst d (by omega))

theorem all_in {st : St} (h : st.ok) : st.all.in_ st.all :=
  ⟨⟨(St.all_bd h 0).1, Int.le_refl _⟩, ⟨(St.all_bd h 1).1, Int.le_refl _⟩, ⟨(St.all_bd h 2).1, Int.le_refl _⟩, (St.all_bd h 3).1, Int.le_refl _⟩
theorem earn_all (st : St) (hst : st.ok) (B : Nat) (pA gA : Option Addr) (pc gc : Nat) (lA : Option Addr) (lc : Nat) (W : World) (hs : StRow W B st pA pc gA gc) (hr : IntRow W W.heap.size lA st.n (fun k => (st.P k).s)) :
    Calls Try.prog 122 #[stV pA st.n pc gA st.m gc st.lots, .slice lA st.n lc, .int .i64 st.lots] W fun e W' => e = .returned (.int .i64 (st.choose st.lots.toNat st.all).2) ∧ Below W.heap.size W W' := by
  have hl0 := hst.l0
  have hl3 := hst.l3
  obtain ⟨ll, hll⟩ := Int.eq_ofNat_of_zero_le hl0
  have h := earn_any st hst ll (by omega) st.all B pA gA pc gc lA lc W (all_in hst) hs (hr.congr (fun k hk => (all_at_lt hst.n4 hk).symm))
  have e : st.lots.toNat = ll := by omega
  rw [e, hll]
  rw [hll] at h
  exact h

set_option maxRecDepth 100000 in
set_option maxHeartbeats 2000000 in
theorem rBest_any (st : St) (B : Nat) (pA gA : Option Addr) (pc gc : Nat) (W : World) (hs : StRow W B st pA pc gA gc) :
    Calls Try.prog 65 #[stV pA st.n pc gA st.m gc st.lots] W fun e W' => e = .returned (.tuple #[.int .i64 (if st.check ≠ 0 then 0 else (st.choose st.lots.toNat st.all).2), .int .i64 st.check]) ∧ Below W.heap.size W W' := by
  have HS := Lib.hid hs
  have hB := hs.lt
  clear hs
  go_enter Try.func65, Try.ntmps65
  go_wp2_with fail
  refine (rcheck_any st B pA gA pc gc _ (HS.out.later (by repeat (first | (with_reducible exact Below.refl _ _) | (with_reducible refine Below.drew ?_) | (with_reducible refine below_drewN ?_ _) | ((with_reducible refine below_alloc ?_ ?_ _); · (first | exact Nat.le_refl _ | omega | (simp; done) | (simp; omega) | (simp at *; omega))) | ((with_reducible refine below_set ?_ ?_ _); · (first | exact Nat.le_refl _ | omega | (simp; done) | (simp; omega) | (simp at *; omega))) | ((with_reducible refine below_via (by with_reducible assumption) ?_ ?_); · (first | exact Nat.le_refl _ | omega | (simp; done) | (simp; omega) | (simp at *; omega))))))).mono ?_
  rintro e w1 ⟨rfl, hb1⟩
  have HB1 := Lib.hid (show Below W.heap.size W w1 from (by repeat (first | (with_reducible exact Below.refl _ _) | (with_reducible refine Below.drew ?_) | (with_reducible refine below_drewN ?_ _) | ((with_reducible refine below_alloc ?_ ?_ _); · (first | exact Nat.le_refl _ | omega | (simp; done) | (simp; omega) | (simp at *; omega))) | ((with_reducible refine below_set ?_ ?_ _); · (first | exact Nat.le_refl _ | omega | (simp; done) | (simp; omega) | (simp at *; omega))) | ((with_reducible refine below_via (by with_reducible assumption) ?_ ?_); · (first | exact Nat.le_refl _ | omega | (simp; done) | (simp; omega) | (simp at *; omega))))))
  have hs1 := hb1.size
  simp only [World.size_alloc] at hs1
  have HA := Lib.hid (show w1.cell? ⟨W.heap.size, 0, none⟩ = some (.slice pA st.n pc) ∧ w1.cell? ⟨W.heap.size, 1, none⟩ = some (.slice gA st.m gc) ∧ w1.cell? ⟨W.heap.size, 2, none⟩ = some (.int .i64 st.lots) from ⟨cell_below_of hb1 (by (repeat' refine And.intro ?_ ?_) <;> (repeat (first | (with_reducible assumption) | (simp; done) | (with_reducible refine cell_drew_of ?_) | (with_reducible refine cell_drewN_of ?_) | (with_reducible refine cell_below_of (by with_reducible assumption) ?_) | ((with_reducible refine cell_new_of ?_ ?_) <;> (first | (with_reducible rfl) | (simp; done))) | ((with_reducible refine fro_new_of ?_) <;> (first | (with_reducible rfl) | (simp; done))) | (with_reducible refine cell_alloc_of _ ?_) | (with_reducible refine cell_set_of _ (by (first | exact Nat.le_refl _ | omega | (simp; done) | (simp; omega))) ?_) | (with_reducible refine fro_drew_of ?_) | (with_reducible refine fro_drewN_of ?_) | (with_reducible refine fro_below_of (by with_reducible assumption) (by (first | exact Nat.le_refl _ | omega | (simp; done) | (simp; omega))) ?_) | (with_reducible refine fro_alloc_of _ (by (first | exact Nat.le_refl _ | omega | (simp; done) | (simp; omega))) ?_) | (with_reducible refine fro_set_of _ ?_)))), cell_below_of hb1 (by (repeat' refine And.intro ?_ ?_) <;> (repeat (first | (with_reducible assumption) | (simp; done) | (with_reducible refine cell_drew_of ?_) | (with_reducible refine cell_drewN_of ?_) | (with_reducible refine cell_below_of (by with_reducible assumption) ?_) | ((with_reducible refine cell_new_of ?_ ?_) <;> (first | (with_reducible rfl) | (simp; done))) | ((with_reducible refine fro_new_of ?_) <;> (first | (with_reducible rfl) | (simp; done))) | (with_reducible refine cell_alloc_of _ ?_) | (with_reducible refine cell_set_of _ (by (first | exact Nat.le_refl _ | omega | (simp; done) | (simp; omega))) ?_) | (with_reducible refine fro_drew_of ?_) | (with_reducible refine fro_drewN_of ?_) | (with_reducible refine fro_below_of (by with_reducible assumption) (by (first | exact Nat.le_refl _ | omega | (simp; done) | (simp; omega))) ?_) | (with_reducible refine fro_alloc_of _ (by (first | exact Nat.le_refl _ | omega | (simp; done) | (simp; omega))) ?_) | (with_reducible refine fro_set_of _ ?_)))), cell_below_of hb1 (by (repeat' refine And.intro ?_ ?_) <;> (repeat (first | (with_reducible assumption) | (simp; done) | (with_reducible refine cell_drew_of ?_) | (with_reducible refine cell_drewN_of ?_) | (with_reducible refine cell_below_of (by with_reducible assumption) ?_) | ((with_reducible refine cell_new_of ?_ ?_) <;> (first | (with_reducible rfl) | (simp; done))) | ((with_reducible refine fro_new_of ?_) <;> (first | (with_reducible rfl) | (simp; done))) | (with_reducible refine cell_alloc_of _ ?_) | (with_reducible refine cell_set_of _ (by (first | exact Nat.le_refl _ | omega | (simp; done) | (simp; omega))) ?_) | (with_reducible refine fro_drew_of ?_) | (with_reducible refine fro_drewN_of ?_) | (with_reducible refine fro_below_of (by with_reducible assumption) (by (first | exact Nat.le_refl _ | omega | (simp; done) | (simp; omega))) ?_) | (with_reducible refine fro_alloc_of _ (by (first | exact Nat.le_refl _ | omega | (simp; done) | (simp; omega))) ?_) | (with_reducible refine fro_set_of _ ?_))))⟩)
  clear hb1
  by_cases h0 : st.check = 0
  · have hnb : (st.check != 0) = false := by simpa using h0
    have HO := Lib.hid (St.check_ok.1 h0)
    have H0 := Lib.hid h0
    obtain ⟨a0, a1, a2⟩ := HA.out
    have n4 := HO.out.n4
    have hl0 := HO.out.l0
    have hl3 := HO.out.l3
    have hs1' := HB1.out.size
    clear h0
    go_upto_region 4 with fail
    go_region_held3 (fun w' => w'.cell? ⟨W.heap.size, 0, none⟩ = some (.slice pA st.n pc) ∧ w'.cell? ⟨W.heap.size, 1, none⟩ = some (.slice gA st.m gc) ∧ w'.cell? ⟨W.heap.size, 2, none⟩ = some (.int .i64 st.lots)) ((go_split_ands; (repeat' refine And.intro ?_ ?_) <;> (repeat (first | (with_reducible assumption) | (simp; done) | (with_reducible refine cell_drew_of ?_) | (with_reducible refine cell_drewN_of ?_) | (with_reducible refine cell_below_of (by with_reducible assumption) ?_) | ((with_reducible refine cell_new_of ?_ ?_) <;> (first | (with_reducible rfl) | (simp; done))) | ((with_reducible refine fro_new_of ?_) <;> (first | (with_reducible rfl) | (simp; done))) | (with_reducible refine cell_alloc_of _ ?_) | (with_reducible refine cell_set_of _ (by (first | exact Nat.le_refl _ | omega | (simp; done) | (simp; omega))) ?_) | (with_reducible refine fro_drew_of ?_) | (with_reducible refine fro_drewN_of ?_) | (with_reducible refine fro_below_of (by with_reducible assumption) (by (first | exact Nat.le_refl _ | omega | (simp; done) | (simp; omega))) ?_) | (with_reducible refine fro_alloc_of _ (by (first | exact Nat.le_refl _ | omega | (simp; done) | (simp; omega))) ?_) | (with_reducible refine fro_set_of _ ?_))))) (first | (go_at_call 84; refine (rwhole_any st B pA gA pc gc _ (HS.out.later ((show Below W.heap.size W _ from HB1.out.trans ((show Below w1.heap.size w1 _ from (by repeat (first | (with_reducible exact Below.refl _ _) | (with_reducible refine Below.drew ?_) | (with_reducible refine below_drewN ?_ _) | ((with_reducible refine below_alloc ?_ ?_ _); · (first | exact Nat.le_refl _ | omega | (simp; done) | (simp; omega) | (simp at *; omega))) | ((with_reducible refine below_set ?_ ?_ _); · (first | exact Nat.le_refl _ | omega | (simp; done) | (simp; omega) | (simp at *; omega))) | ((with_reducible refine below_via (by with_reducible assumption) ?_ ?_); · (first | exact Nat.le_refl _ | omega | (simp; done) | (simp; omega) | (simp at *; omega)))))).mono hs1')).mono hB))).mono ?_; rintro e wa ⟨⟨wA, wc, rfl, hwr, hwc⟩, hba⟩; obtain ⟨hca, hfa⟩ := bcell hba; have hza := hba.size; (try simp only [World.size_drew, World.heap_drewN, World.size_alloc] at hza); clear hca hfa) | (go_at_call 122; refine (earn_all st HO.out B pA gA pc gc wA wc _ (HS.out.later ((show Below W.heap.size W _ from HB1.out.trans ((show Below w1.heap.size w1 _ from (by repeat (first | (with_reducible exact Below.refl _ _) | (with_reducible refine Below.drew ?_) | (with_reducible refine below_drewN ?_ _) | ((with_reducible refine below_alloc ?_ ?_ _); · (first | exact Nat.le_refl _ | omega | (simp; done) | (simp; omega) | (simp at *; omega))) | ((with_reducible refine below_set ?_ ?_ _); · (first | exact Nat.le_refl _ | omega | (simp; done) | (simp; omega) | (simp at *; omega))) | ((with_reducible refine below_via (by with_reducible assumption) ?_ ?_); · (first | exact Nat.le_refl _ | omega | (simp; done) | (simp; omega) | (simp at *; omega)))))).mono hs1')).mono hB)) (hwr.later (by repeat (first | (with_reducible exact Below.refl _ _) | (with_reducible refine Below.drew ?_) | (with_reducible refine below_drewN ?_ _) | ((with_reducible refine below_alloc ?_ ?_ _); · (first | exact Nat.le_refl _ | omega | (simp; done) | (simp; omega) | (simp at *; omega))) | ((with_reducible refine below_set ?_ ?_ _); · (first | exact Nat.le_refl _ | omega | (simp; done) | (simp; omega) | (simp at *; omega))) | ((with_reducible refine below_via (by with_reducible assumption) ?_ ?_); · (first | exact Nat.le_refl _ | omega | (simp; done) | (simp; omega) | (simp at *; omega))))))).mono ?_; rintro e we ⟨rfl, hbe⟩; obtain ⟨hce, hfe⟩ := bcell hbe; have hze := hbe.size; (try simp only [World.size_drew, World.heap_drewN, World.size_alloc] at hze); clear hce hfe))
    have hbo := HB1.out
    go_wp2_with fail
    go_ret2
    exact ⟨by simp [H0.out], (by repeat (first | (with_reducible exact Below.refl _ _) | (with_reducible refine Below.drew ?_) | (with_reducible refine below_drewN ?_ _) | ((with_reducible refine below_alloc ?_ ?_ _); · (first | exact Nat.le_refl _ | omega | (simp; done) | (simp; omega) | (simp at *; omega))) | ((with_reducible refine below_set ?_ ?_ _); · (first | exact Nat.le_refl _ | omega | (simp; done) | (simp; omega) | (simp at *; omega))) | ((with_reducible refine below_via (by with_reducible assumption) ?_ ?_); · (first | exact Nat.le_refl _ | omega | (simp; done) | (simp; omega) | (simp at *; omega)))))⟩
  · have hnb : (st.check != 0) = true := by simpa using h0
    have H0 := Lib.hid h0
    clear h0
    go_wp2_with fail
    go_ret2
    exact ⟨rfl, HB1.out⟩
end Go.Proofs.Ytegmomappbehcaa

set_option linter.unusedSimpArgs false
set_option linter.unusedVariables false
namespace Go.Proofs.Ytegmomappbehcaa
open Go.RowKit Go.Shelf

theorem pre_last {left : Bag} (h0 : ∀ k, k < 4 → 0 ≤ left.at k) : ∀ i, i ≤ 4 → ∃ M y, pre left i = M ++ [y] ∧ (∀ k, k < i → y.at k = left.at k) ∧ ∀ k, i ≤ k → k < 4 → y.at k = 0
  | 0, _ => ⟨[], bagZ, rfl, fun k hk => absurd hk (by omega), fun k _ hk => by
      match k, hk with
      | 0, _ | 1, _ | 2, _ | 3, _ => rfl⟩
  | i + 1, hi => by
    obtain ⟨M, y, e, h1, h2⟩ := pre_last h0 i (by omega)
    have hc := h0 i (by omega)
    refine ⟨(M.flatMap fun b => (List.range (left.at i + 1).toNat).map fun n : Nat => b.set i n) ++ (List.range (left.at i).toNat).map (fun n : Nat => y.set i n), y.set i (left.at i), ?_, fun k hk => ?_, fun k hk hk4 => ?_⟩
    · rw [pre, e, List.flatMap_append, List.append_assoc]
      congr 1
      rw [List.flatMap_cons, List.flatMap_nil, List.append_nil, show (left.at i + 1).toNat = (left.at i).toNat + 1 by omega, List.range_succ, List.map_append]
      congr 2
      simp
      congr 1
      omega
    · rw [Bag.at_set (by omega)]
      split
      · subst k; rfl
      · exact h1 k (by omega)
    · rw [Bag.at_set (by omega), if_neg (by omega)]
      exact h2 k (by omega) hk4
theorem bags_last {left : Bag} (h0 : ∀ k, k < 4 → 0 ≤ left.at k) : ∃ M, bagsOf left = M ++ [left] := by
  obtain ⟨M, y, e, h1, _⟩ := pre_last h0 4 (by omega)
  rw [pre_all] at e
  have : y = left := Bag.ext_at h1
  subst this
  exact ⟨M, e⟩
theorem St.fits_take {st : St} {X : Nat → Int} {n k : Nat} {L : List Bag} {x : Bag} (hx : L[k]? = some x) (h : st.fits X n (L.take k) = true) (hb : st.brings x ≤ costN X x n) : st.fits X n (L.take (k + 1)) = true := by
  rw [List.take_add_one, hx]
  show st.fits X n (L.take k ++ [x]) = true
  rw [St.fits_snoc, h, decide_eq_true hb]
  rfl

set_option maxRecDepth 100000 in
set_option maxHeartbeats 4000000 in
theorem rBound_any (st : St) (B : Nat) (pA gA : Option Addr) (pc gc : Nat) (lA : Option Addr) (ln lc : Nat) (X : Nat → Int) (W : World) (hs : StRow W B st pA pc gA gc) (hl : IntRow W W.heap.size lA ln X) (hn : ln ≤ 1000) :
    Calls Try.prog 64 #[stV pA st.n pc gA st.m gc st.lots, .slice lA ln lc] W fun e W' => e = .returned (nuV (st.boundR ln X)) ∧ Below W.heap.size W W' := by
  have HS := Lib.hid hs; have HL := Lib.hid hl; have hB := hs.lt; clear hs hl
  go_enter Try.func64, Try.ntmps64
  go_wp2_with fail
  refine (rcheck_any st B pA gA pc gc _ (HS.out.later (by repeat (first | (with_reducible exact Below.refl _ _) | (with_reducible refine Below.drew ?_) | (with_reducible refine below_drewN ?_ _) | ((with_reducible refine below_alloc ?_ ?_ _); · (first | exact Nat.le_refl _ | omega | (simp; done) | (simp; omega) | (simp at *; omega))) | ((with_reducible refine below_set ?_ ?_ _); · (first | exact Nat.le_refl _ | omega | (simp; done) | (simp; omega) | (simp at *; omega))) | ((with_reducible refine below_via (by with_reducible assumption) ?_ ?_); · (first | exact Nat.le_refl _ | omega | (simp; done) | (simp; omega) | (simp at *; omega))))))).mono ?_
  rintro e w1 ⟨rfl, hb1⟩
  have HB1 := Lib.hid (show Below W.heap.size W w1 from (by repeat (first | (with_reducible exact Below.refl _ _) | (with_reducible refine Below.drew ?_) | (with_reducible refine below_drewN ?_ _) | ((with_reducible refine below_alloc ?_ ?_ _); · (first | exact Nat.le_refl _ | omega | (simp; done) | (simp; omega) | (simp at *; omega))) | ((with_reducible refine below_set ?_ ?_ _); · (first | exact Nat.le_refl _ | omega | (simp; done) | (simp; omega) | (simp at *; omega))) | ((with_reducible refine below_via (by with_reducible assumption) ?_ ?_); · (first | exact Nat.le_refl _ | omega | (simp; done) | (simp; omega) | (simp at *; omega))))))
  have hs1 := hb1.size
  simp only [World.size_alloc] at hs1
  have HA := Lib.hid (show w1.cell? ⟨W.heap.size, 0, none⟩ = some (.slice pA st.n pc) ∧ w1.cell? ⟨W.heap.size, 1, none⟩ = some (.slice gA st.m gc) ∧ w1.cell? ⟨W.heap.size, 2, none⟩ = some (.int .i64 st.lots) from ⟨cell_below_of hb1 (by (repeat' refine And.intro ?_ ?_) <;> (repeat (first | (with_reducible assumption) | (simp; done) | (with_reducible refine cell_drew_of ?_) | (with_reducible refine cell_drewN_of ?_) | (with_reducible refine cell_below_of (by with_reducible assumption) ?_) | ((with_reducible refine cell_new_of ?_ ?_) <;> (first | (with_reducible rfl) | (simp; done))) | ((with_reducible refine fro_new_of ?_) <;> (first | (with_reducible rfl) | (simp; done))) | (with_reducible refine cell_alloc_of _ ?_) | (with_reducible refine cell_set_of _ (by (first | exact Nat.le_refl _ | omega | (simp; done) | (simp; omega))) ?_) | (with_reducible refine fro_drew_of ?_) | (with_reducible refine fro_drewN_of ?_) | (with_reducible refine fro_below_of (by with_reducible assumption) (by (first | exact Nat.le_refl _ | omega | (simp; done) | (simp; omega))) ?_) | (with_reducible refine fro_alloc_of _ (by (first | exact Nat.le_refl _ | omega | (simp; done) | (simp; omega))) ?_) | (with_reducible refine fro_set_of _ ?_)))), cell_below_of hb1 (by (repeat' refine And.intro ?_ ?_) <;> (repeat (first | (with_reducible assumption) | (simp; done) | (with_reducible refine cell_drew_of ?_) | (with_reducible refine cell_drewN_of ?_) | (with_reducible refine cell_below_of (by with_reducible assumption) ?_) | ((with_reducible refine cell_new_of ?_ ?_) <;> (first | (with_reducible rfl) | (simp; done))) | ((with_reducible refine fro_new_of ?_) <;> (first | (with_reducible rfl) | (simp; done))) | (with_reducible refine cell_alloc_of _ ?_) | (with_reducible refine cell_set_of _ (by (first | exact Nat.le_refl _ | omega | (simp; done) | (simp; omega))) ?_) | (with_reducible refine fro_drew_of ?_) | (with_reducible refine fro_drewN_of ?_) | (with_reducible refine fro_below_of (by with_reducible assumption) (by (first | exact Nat.le_refl _ | omega | (simp; done) | (simp; omega))) ?_) | (with_reducible refine fro_alloc_of _ (by (first | exact Nat.le_refl _ | omega | (simp; done) | (simp; omega))) ?_) | (with_reducible refine fro_set_of _ ?_)))), cell_below_of hb1 (by (repeat' refine And.intro ?_ ?_) <;> (repeat (first | (with_reducible assumption) | (simp; done) | (with_reducible refine cell_drew_of ?_) | (with_reducible refine cell_drewN_of ?_) | (with_reducible refine cell_below_of (by with_reducible assumption) ?_) | ((with_reducible refine cell_new_of ?_ ?_) <;> (first | (with_reducible rfl) | (simp; done))) | ((with_reducible refine fro_new_of ?_) <;> (first | (with_reducible rfl) | (simp; done))) | (with_reducible refine cell_alloc_of _ ?_) | (with_reducible refine cell_set_of _ (by (first | exact Nat.le_refl _ | omega | (simp; done) | (simp; omega))) ?_) | (with_reducible refine fro_drew_of ?_) | (with_reducible refine fro_drewN_of ?_) | (with_reducible refine fro_below_of (by with_reducible assumption) (by (first | exact Nat.le_refl _ | omega | (simp; done) | (simp; omega))) ?_) | (with_reducible refine fro_alloc_of _ (by (first | exact Nat.le_refl _ | omega | (simp; done) | (simp; omega))) ?_) | (with_reducible refine fro_set_of _ ?_))))⟩)
  clear hb1
  by_cases h0 : st.check = 0
  · have hnb : (st.check != 0) = false := by simpa using h0
    have HO := Lib.hid (St.check_ok.1 h0)
    have HE0 : Hid (st.boundErr ln X = if ln ≠ st.n then 3 else if allN (fun k => inB (X k) 0 100) ln = false then 4 else if st.fits X ln (bagsOf st.all) = false then 8 else 0) := Lib.hid (by unfold St.boundErr; rw [if_neg (by simp [h0])])
    obtain ⟨a0, a1, a2⟩ := HA.out
    have n4 := HO.out.n4
    have n1 := HO.out.n1
    have hs1' := HB1.out.size
    clear h0
    by_cases hne : ln = st.n
    · have hb : ((ln : Int) != (st.n : Int)) = false := by simp [hne]
      subst hne
      go_wp2_with fail
      go_loopw [7] (fun i wr => ∃ k : Nat, k ≤ st.n ∧ i = .int .i64 k ∧ Hid (∀ j, j < k → inB (X j) 0 100 = true) ∧ wr = w1) (fun i _ => st.n - (intOf i).toNat)
      case atStart => exact ⟨0, by omega, rfl, Lib.hid (fun j hj => absurd hj (by omega)), rfl⟩
      case round =>
        obtain ⟨k, hk, rfl, hall, rfl⟩ := hrel
        by_cases hlt : k < st.n
        · obtain ⟨b, o, rfl, hbl, c0⟩ := (HL.out.below HB1.out) k hlt
          have hk0 : (0 : Int) ≤ (k : Int) := by omega
          have hkn : (k : Int) < (st.n : Int) := by omega
          cases j1 : inB (X k) 0 100 with
          | false =>
            have HR : Hid (st.boundR st.n X = (0, 4)) := Lib.hid (by
              have e : st.boundErr st.n X = 4 := by rw [HE0.out, if_neg (by simp), if_pos (allN_false (k := k) hlt j1)]
              unfold St.boundR; rw [e]; rfl)
            go_wp2_with (go_at_call 82; refine (off_any _ _ _ _).mono ?_; rintro e w' ⟨rfl, rfl⟩)
            go_ret2
            exact ⟨by rw [HR.out]; rfl, HB1.out⟩
          | true =>
            have HU := Lib.hid j1
            go_wp2_with (go_at_call 82; refine (off_any _ _ _ _).mono ?_; rintro e w' ⟨rfl, rfl⟩)
            go_roundw
            case rel => exact ⟨k + 1, by omega, by go_num, Lib.hid (fun j hj => by rcases Nat.lt_or_ge j k with h | h; exact hall.out j h; rw [show j = k from by omega]; exact HU.out), trivial⟩
            case measure => simp [intOf]; omega
        · have hk' : k = st.n := by omega
          have hge : ¬ (k : Int) < (st.n : Int) := by omega
          have hX : ∀ j, j < st.n → 0 ≤ X j ∧ X j ≤ 100 := fun j hj => by simpa [inB] using hall.out j (by omega)
          have HX := Lib.hid hX
          have HE1 : Hid (st.boundErr st.n X = if st.fits X st.n (bagsOf st.all) = false then 8 else 0) := Lib.hid (by
            rw [HE0.out, if_neg (by simp), if_neg]
            rw [allN_iff.2 (fun j hj => hall.out j (by omega))]
            decide)
          obtain ⟨M, hM⟩ := bags_last (fun k _ => (St.all_bd HO.out k).1)
          have HM := Lib.hid hM
          clear hk' hX hM
          go_wp2_with fail
          refine (rwhole_any st B pA gA pc gc _ (HS.out.later (HB1.out.mono hB))).mono ?_
          rintro e w2 ⟨⟨wA, wc, rfl, hwr, hwc⟩, hb2⟩
          have HB2 := Lib.hid (HB1.out.trans (hb2.mono (by omega)))
          have hs2 := hb2.size
          have HWR := Lib.hid (hwr.congr (Y := st.all.at) (fun k hk => (all_at_lt n4 hk).symm))
          have HA2 := Lib.hid (show _ ∧ _ ∧ _ from ⟨cell_same (hb2.block _ (by omega)) HA.out.1, cell_same (hb2.block _ (by omega)) HA.out.2.1, cell_same (hb2.block _ (by omega)) HA.out.2.2⟩)
          clear hb2 hwr a0 a1 a2
          go_wp2_with fail
          refine (rlots_any st.n n4 st.all (fun k _ => St.all_bd HO.out k) wA wc _ HWR.out).mono ?_
          rintro e w3 ⟨⟨LA, lcap, rfl, hrows, hlc⟩, hb3⟩
          rw [pre_st n4] at hrows hlc ⊢
          have HB3 := Lib.hid (HB2.out.trans (hb3.mono (by omega)))
          have hs3 := hb3.size
          have HA3 := Lib.hid (show _ ∧ _ ∧ _ from ⟨cell_same (hb3.block _ (by omega)) HA2.out.1, cell_same (hb3.block _ (by omega)) HA2.out.2.1, cell_same (hb3.block _ (by omega)) HA2.out.2.2⟩)
          have HROWS := Lib.hid hrows
          have hLl := bagsOf_length (fun k hk => (St.all_bd HO.out k).2)
          have HIN : Hid (∀ b, b ∈ bagsOf st.all → b.in_ st.all) := Lib.hid (fun b hb => mem_bagsOf.1 hb)
          generalize hL : bagsOf st.all = L at *
          clear hb3 hrows hL
          go_wp2_with fail
          go_loopw [9, 10] (fun v i wr => ∃ (k : Nat), k ≤ L.length ∧ i = .int .i64 k ∧ (∃ z : Int, v = .int .i64 z ∧ (0 < k → ∃ x, L[k - 1]? = some x ∧ z = costN X x st.n)) ∧ Hid (st.fits X st.n (L.take k) = true) ∧ Hid (Below w3.heap.size w3 wr)) (fun _ i _ => L.length - (intOf i).toNat)
          case atStart => exact ⟨0, by omega, rfl, ⟨0, rfl, fun h => absurd h (by omega)⟩, Lib.hid rfl, Lib.hid (Below.refl _ _)⟩
          case round =>
            obtain ⟨k, hk, rfl, ⟨z, rfl, hz⟩, hfit, hbw⟩ := hrel
            have hsw := hbw.out.size
            have HBW := Lib.hid (HB3.out.trans (hbw.out.mono (by omega)))
            have hsW := HBW.out.size
            by_cases hlt : k < L.length
            · obtain ⟨x, hx⟩ : ∃ x, L[k]? = some x := ⟨L[k], List.getElem?_eq_getElem hlt⟩
              obtain ⟨lb, lo, v, rfl, hlb, l0, rA, rc, rfl, hrc, hri, _⟩ := HROWS.out k x hx
              have l0 := cell_same (hbw.out.block _ hlb) l0
              have hk0 : (0 : Int) ≤ (k : Int) := by omega
              have hkn : (k : Int) < (L.length : Int) := by omega
              have HRI := Lib.hid (hri.later hbw.out)
              have hxi := HIN.out x (List.mem_of_getElem? hx)
              have HXR := Lib.hid (fun k hk => St.in_all hxi k hk (by omega))
              have HXB := Lib.hid (bagOf_at_in n4 hxi)
              have H6 := Lib.hid (show ∀ k, 0 ≤ x.at k ∧ x.at k ≤ 6 from fun k => by have := Bag.in_at hxi k; have := St.all_bd HO.out k; omega)
              have bdb := St.brings_bd HO.out hxi
              have HXX := Lib.hid hx
              have HLT := Lib.hid hlt
              have HL0 := Lib.hid l0
              obtain ⟨wo, rfl⟩ : ∃ wo, wo = wr := ⟨_, rfl⟩
              clear hri hx hxi hz hlt l0
              go_wp2_with fail
              go_loopw [9, 11] (fun v i wy => ∃ p : Nat, p ≤ st.n ∧ i = .int .i64 p ∧ v = .int .i64 (costN X x p) ∧ Hid (Below wo.heap.size wo wy)) (fun _ i _ => st.n - (intOf i).toNat)
              case atStart => exact ⟨0, by omega, rfl, rfl, Lib.hid (Below.refl _ _)⟩
              case round =>
                obtain ⟨p, hp, rfl, rfl, hby⟩ := hrel
                have hsy := hby.out.size
                have l0 := cell_below_of hby.out HL0.out
                by_cases hltp : p < st.n
                · obtain ⟨cb, co, rfl, hcb, c0⟩ := (HL.out.below (HBW.out.trans (hby.out.mono hsW))) p hltp
                  obtain ⟨rb, ro, rfl, hrb, r0⟩ := (HRI.out.later hby.out) p hltp
                  have hp0 : (0 : Int) ≤ (p : Int) := by omega
                  have hpn : (p : Int) < (st.n : Int) := by omega
                  have bx := HX.out p hltp
                  have b6 := H6.out p
                  have bm := mul_bd bx b6
                  have bc := costN_bd (X := X) (x := x) (n := p) (fun j hj => HX.out j (by omega)) H6.out
                  have ew1 : IntKind.i64.wrap (X p * x.at p) = X p * x.at p := IntWalk.i64_in _ (by omega)
                  have ew2 : IntKind.i64.wrap (costN X x p + X p * x.at p) = costN X x (p + 1) := IntWalk.i64_in _ (by omega)
                  clear bx b6 bm bc
                  go_wp2_with fail
                  refine region_qbw (by kernel_rfl) (by kernel_rfl) ?_
                  have x0 := cell_regrown l0
                  have x1 := cell_regrown c0
                  have x2 := cell_regrown r0
                  clear l0 c0 r0
                  repeat (first | go_big_quiet_step (fail) | quiet_step (fail))
                  refine wpQuiet_nil ?_; intro wt hbt
                  clear x0 x1 x2
                  have hby2 := Lib.hid (hby.out.trans (hbt.mono hsy))
                  clear hbt
                  go_wp2_with fail
                  go_roundw
                  case rel => exact ⟨p + 1, by omega, by go_num, rfl, hby2⟩
                  case measure => simp [intOf]; omega
                · have hp' : p = st.n := by omega
                  have hgep : ¬ (p : Int) < (st.n : Int) := by omega
                  have HCE : Hid (costN X x p = costN X x st.n) := Lib.hid (by rw [hp'])
                  rw [HCE.out]
                  have a0 := cell_same (hby.out.block _ (by omega)) (cell_same (hbw.out.block _ (by omega)) HA3.out.1)
                  have a1 := cell_same (hby.out.block _ (by omega)) (cell_same (hbw.out.block _ (by omega)) HA3.out.2.1)
                  have a2 := cell_same (hby.out.block _ (by omega)) (cell_same (hbw.out.block _ (by omega)) HA3.out.2.2)
                  have HBY := Lib.hid (HBW.out.trans (hby.out.mono hsW))
                  have hsY := HBY.out.size
                  have HRI2 := Lib.hid (HRI.out.later hby.out)
                  clear hp'
                  go_wp2_with fail
                  refine region_qbw (by kernel_rfl) (by kernel_rfl) ?_
                  have x0 := cell_regrown a0
                  have x1 := cell_regrown a1
                  have x2 := cell_regrown a2
                  have x3 := cell_regrown l0
                  clear a0 a1 a2 l0
                  repeat (first | go_big_quiet_step ((go_at_call 119; exact Calls.regrown_of (rbrings_any st HO.out B pA gA pc gc rA rc x.at _ (HS.out.later ((HBY.out.trans ((below_regrown _ _ _).mono hsY)).mono hB)) (HRI2.out.later (below_regrown _ _ _)) HXR.out))) | quiet_step ((go_at_call 119; exact Calls.regrown_of (rbrings_any st HO.out B pA gA pc gc rA rc x.at _ (HS.out.later ((HBY.out.trans ((below_regrown _ _ _).mono hsY)).mono hB)) (HRI2.out.later (below_regrown _ _ _)) HXR.out))))
                  refine wpQuiet_nil ?_; intro wt hbt
                  clear x0 x1 x2 x3
                  rw [HXB.out]
                  have hbwt := Lib.hid (hbw.out.trans ((hby.out.trans (hbt.mono hsy)).mono hsw))
                  have HBT := Lib.hid (HBY.out.trans (hbt.mono hsY))
                  clear hbt
                  by_cases hgt : costN X x st.n < st.brings x
                  · have HR : Hid (st.boundR st.n X = (0, 8)) := Lib.hid (by
                      have e : st.fits X st.n L = false := by
                        have h1 : st.fits X st.n (L.take (k + 1)) = false := by
                          rw [List.take_add_one, HXX.out]
                          show st.fits X st.n (L.take k ++ [x]) = false
                          rw [St.fits_snoc, decide_eq_false (by omega), Bool.and_false]
                        exact St.fits_prefix (List.take_prefix _ _) h1
                      unfold St.boundR
                      rw [HE1.out, if_pos e]
                      rfl)
                    go_wp2_with fail
                    go_ret2
                    exact ⟨by rw [HR.out]; rfl, HBT.out⟩
                  · have HFI : Hid (st.fits X st.n (L.take (k + 1)) = true) := Lib.hid (St.fits_take HXX.out hfit.out (by omega))
                    go_wp2_with fail
                    go_roundw
                    case rel => exact ⟨k + 1, HLT.out, by go_num, ⟨_, rfl, fun _ => ⟨x, by simpa using HXX.out, rfl⟩⟩, HFI, hbwt⟩
                    case measure => have := HLT.out; simp [intOf]; omega
            · have hk' : k = L.length := by omega
              have hge : ¬ (k : Int) < (L.length : Int) := by omega
              have HR : Hid (st.boundR st.n X = (z, 0)) := Lib.hid (by
                have e1 : st.fits X st.n L = true := by have := hfit.out; rwa [hk', List.take_length] at this
                have hML := HM.out
                obtain ⟨x, hx, hzx⟩ := hz (by rw [hk', hML]; simp)
                have hxa : x = st.all := by
                  rw [hk', hML] at hx
                  simpa using hx.symm
                have e : st.boundErr st.n X = 0 := by rw [HE1.out, if_neg (by rw [e1]; decide)]
                unfold St.boundR
                rw [e, if_neg (by decide), hzx, hxa])
              clear hk' hz
              go_wp2_with fail
              go_ret2
              exact ⟨by rw [HR.out]; rfl, HBW.out⟩
    · have hb : ((ln : Int) != (st.n : Int)) = true := by rw [bne_iff_ne]; omega
      have HR : Hid (st.boundR ln X = (0, 3)) := Lib.hid (by
        have e : st.boundErr ln X = 3 := by rw [HE0.out, if_pos hne]
        unfold St.boundR; rw [e]; rfl)
      clear hne
      go_wp2_with fail
      go_ret2
      exact ⟨by rw [HR.out]; rfl, HB1.out⟩
  · have hnb : (st.check != 0) = true := by simpa using h0
    have HR : Hid (st.boundR ln X = (0, st.check)) := Lib.hid (by
      have : st.boundErr ln X = st.check := by unfold St.boundErr; rw [if_pos h0]
      unfold St.boundR; rw [this, if_pos h0])
    clear h0
    go_wp2_with fail
    go_ret2
    exact ⟨by rw [HR.out]; rfl, HB1.out⟩
end Go.Proofs.Ytegmomappbehcaa

set_option linter.unusedSimpArgs false
set_option linter.unusedVariables false
namespace Go.Proofs.Ytegmomappbehcaa
open Go.RowKit Go.Shelf

/-- how many sacks there are, as far as their numbers are allowed -/
def St.sacks (st : St) (n : Nat) : Int := sumN (fun k => min (max (st.P k).s 0) 6) n
theorem St.sacks_bd (st : St) (n : Nat) : 0 ≤ st.sacks n ∧ st.sacks n ≤ 6 * (n : Int) := sumN_bd2 _ n 6 (fun k _ => by omega)

set_option maxRecDepth 100000 in
set_option maxHeartbeats 1000000 in
theorem sacks_any (st : St) (B : Nat) (pA gA : Option Addr) (pc gc : Nat) (W : World) (hs : StRow W B st pA pc gA gc) :
    Calls Try.prog 34 #[stV pA st.n pc gA st.m gc st.lots] W fun e W' => e = .returned (.int .i64 (st.sacks st.n)) ∧ Below W.heap.size W W' := by
  have HS := Lib.hid hs
  have hB := hs.lt
  have hn := hs.n
  clear hs
  go_enter Try.func34, Try.ntmps34
  go_wp2_with fail
  go_loopw [3, 9] (fun v i wr => ∃ k : Nat, k ≤ st.n ∧ i = .int .i64 k ∧ v = .int .i64 (st.sacks k) ∧ Hid (Below W.heap.size W wr)) (fun _ i _ => st.n - (intOf i).toNat)
  case atStart => exact ⟨0, Nat.zero_le _, rfl, rfl, Lib.hid (by repeat (first | (with_reducible exact Below.refl _ _) | (with_reducible refine Below.drew ?_) | (with_reducible refine below_drewN ?_ _) | ((with_reducible refine below_alloc ?_ ?_ _); · (first | exact Nat.le_refl _ | omega | (simp; done) | (simp; omega) | (simp at *; omega))) | ((with_reducible refine below_set ?_ ?_ _); · (first | exact Nat.le_refl _ | omega | (simp; done) | (simp; omega) | (simp at *; omega))) | ((with_reducible refine below_via (by with_reducible assumption) ?_ ?_); · (first | exact Nat.le_refl _ | omega | (simp; done) | (simp; omega) | (simp at *; omega)))))⟩
  case round =>
    obtain ⟨k, hk, rfl, rfl, hbw⟩ := hrel
    by_cases hlt : k < st.n
    · obtain ⟨b, o, rfl, hbl, c0, c1, c2, c3⟩ := (HS.out.p.below (hbw.out.mono hB)) k hlt
      have hk0 : (0 : Int) ≤ (k : Int) := by omega
      have hkn : (k : Int) < (st.n : Int) := by omega
      have hb := st.sacks_bd k
      have ew : IntKind.i64.wrap (st.sacks k + min (max (st.P k).s 0) 6) = st.sacks (k + 1) := IntWalk.i64_in _ (by omega)
      have hbo := hbw.out
      have hsw := hbw.out.size
      clear hb
      go_wp2_with fail
      go_roundw
      case rel => exact ⟨k + 1, by omega, by go_num, rfl, Lib.hid (by repeat (first | (with_reducible exact Below.refl _ _) | (with_reducible refine Below.drew ?_) | (with_reducible refine below_drewN ?_ _) | ((with_reducible refine below_alloc ?_ ?_ _); · (first | exact Nat.le_refl _ | omega | (simp; done) | (simp; omega) | (simp at *; omega))) | ((with_reducible refine below_set ?_ ?_ _); · (first | exact Nat.le_refl _ | omega | (simp; done) | (simp; omega) | (simp at *; omega))) | ((with_reducible refine below_via (by with_reducible assumption) ?_ ?_); · (first | exact Nat.le_refl _ | omega | (simp; done) | (simp; omega) | (simp at *; omega)))))⟩
      case measure => simp [intOf]; omega
    · obtain rfl : k = st.n := by omega
      have hge : ¬ (st.n : Int) < (st.n : Int) := by omega
      go_wp2_with fail
      go_ret
      exact ⟨rfl, hbw.out⟩
end Go.Proofs.Ytegmomappbehcaa

set_option linter.unusedSimpArgs false
set_option linter.unusedVariables false
namespace Go.Proofs.Ytegmomappbehcaa

theorem sumN_cons (f : Nat → Int) : ∀ n, sumN f (n + 1) = f 0 + sumN (fun k => f (k + 1)) n
  | 0 => by simp [sumN]
  | n + 1 => by
    show sumN f (n + 1) + f (n + 1) = f 0 + (sumN (fun k => f (k + 1)) n + f (n + 1))
    rw [sumN_cons f n]
    omega
theorem St.choOf_form (st : St) (k : Nat) (left : Bag) (l : List Bag) : (st.choOf k left l = (bagZ, 0)) ∨ ∃ b, b ∈ l ∧ st.brings b ≠ 0 ∧ st.choOf k left l = (b, st.brings b + (st.choose k (left.less b)).2) := by
  have key : ∀ (l : List Bag) (acc : Bag × Int), (l.foldl (st.chStep (fun x => (st.choose k x).2) left) acc = acc) ∨ ∃ b, b ∈ l ∧ st.brings b ≠ 0 ∧ l.foldl (st.chStep (fun x => (st.choose k x).2) left) acc = (b, st.brings b + (st.choose k (left.less b)).2) := by
    intro l
    induction l with
    | nil => intro acc; exact .inl rfl
    | cons a l ih =>
      intro acc
      rw [List.foldl_cons]
      have ha : st.chStep (fun x => (st.choose k x).2) left acc a = acc ∨ st.brings a ≠ 0 ∧ st.chStep (fun x => (st.choose k x).2) left acc a = (a, st.brings a + (st.choose k (left.less a)).2) := by
        unfold St.chStep
        by_cases hb : st.brings a = 0
        · rw [if_pos hb]; exact .inl rfl
        · rw [if_neg hb]
          split
          · exact .inr ⟨hb, rfl⟩
          · exact .inl rfl
      rcases ih (st.chStep (fun x => (st.choose k x).2) left acc a) with h | ⟨b, h1, h2, h3⟩
      · rw [h]
        rcases ha with ha | ⟨h1, h2⟩
        · exact .inl ha
        · exact .inr ⟨a, by simp, h1, h2⟩
      · exact .inr ⟨b, by simp [h1], h2, h3⟩
  exact key l _
theorem Bag.less_atp (x y : Bag) : ∀ p, (x.less y).at p = x.at p - y.at p
  | 0 => rfl
  | 1 => rfl
  | 2 => rfl
  | 3 => rfl
  | n + 4 => rfl
theorem St.planN_all {st : St} (hst : st.ok) : ∀ (k : Nat) (left : Bag), left.in_ st.all →
    (∀ x, x ∈ st.planN k left → x.in_ left ∧ st.brings x ≠ 0) ∧ (∀ p, sumN (fun j => ((st.planN k left).getD j bagZ).at p) (st.planN k left).length ≤ left.at p) ∧ sumN (fun j => st.brings ((st.planN k left).getD j bagZ)) (st.planN k left).length = (st.choose k left).2
  | 0, left, hl => ⟨fun x hx => by simp [St.planN] at hx, fun p => Int.le_trans (Int.le_refl 0) (Bag.in_at hl p).1, rfl⟩
  | k + 1, left, hl => by
    have hbd := St.choose_bd hst (k + 1) left hl
    rw [St.planN_succ]
    by_cases h0 : 0 < (st.choose (k + 1) left).2
    · rw [if_pos (by simpa using h0)]
      rcases st.choOf_form k left (bagsOf left) with h | ⟨b, h1, h2, h3⟩
      · rw [St.choose_succ, h] at h0
        exact absurd h0 (by decide)
      · have hb := mem_bagsOf.1 h1
        have hli : (left.less b).in_ st.all := Bag.in_trans (Bag.less_in hb) hl
        have e1 : (st.choose (k + 1) left).1 = b := by rw [St.choose_succ, h3]
        have e2 : (st.choose (k + 1) left).2 = st.brings b + (st.choose k (left.less b)).2 := by rw [St.choose_succ, h3]
        rw [e1, e2]
        obtain ⟨i1, i2, i3⟩ := St.planN_all hst k (left.less b) hli
        refine ⟨fun x hx => ?_, fun p => ?_, ?_⟩
        · rcases List.mem_cons.1 hx with rfl | hx
          · exact ⟨hb, h2⟩
          · exact ⟨Bag.in_trans (i1 x hx).1 (Bag.less_in hb), (i1 x hx).2⟩
        · rw [List.length_cons, sumN_cons]
          have h4 := i2 p
          rw [Bag.less_atp] at h4
          show b.at p + sumN (fun j => ((st.planN k (left.less b)).getD j bagZ).at p) (st.planN k (left.less b)).length ≤ left.at p
          omega
        · rw [List.length_cons, sumN_cons]
          show st.brings b + sumN (fun j => st.brings ((st.planN k (left.less b)).getD j bagZ)) _ = _
          rw [i3]
    · rw [if_neg (by simpa using h0)]
      refine ⟨fun x hx => by simp at hx, fun p => ?_, ?_⟩
      · exact (Bag.in_at hl p).1
      · show (0 : Int) = (st.choose (k + 1) left).2
        omega
/-- the rows of a plan that is told -/
def St.planL (st : St) (j : Nat) : Nat × (Nat → Int) := (st.n, ((st.planN st.lots.toNat st.all).getD j bagZ).at)
theorem St.lot_in {st : St} {x : Bag} (h4 : st.n ≤ 4) (h : x.in_ st.all) : st.lotErr st.n x.at = 0 := by
  unfold St.lotErr
  rw [if_neg (by simp), if_neg]
  rw [allN_iff.2 (fun k hk => by
    have h1 := St.in_all h k hk (by omega)
    simp [inB]; omega)]
  decide
theorem St.ask_in {st : St} {x : Bag} (hst : st.ok) (h : x.in_ st.all) : st.askErr st.n x.at = 0 := by
  unfold St.askErr
  rw [if_neg (by simp [St.check_ok.2 hst])]
  exact St.lot_in hst.n4 h
theorem St.plan_get {st : St} (hst : st.ok) {j : Nat} (hj : j < (st.planN st.lots.toNat st.all).length) : ((st.planN st.lots.toNat st.all).getD j bagZ).in_ st.all ∧ st.brings ((st.planN st.lots.toNat st.all).getD j bagZ) ≠ 0 := by
  have ha : st.all.in_ st.all := ⟨⟨(St.all_bd hst 0).1, Int.le_refl _⟩, ⟨(St.all_bd hst 1).1, Int.le_refl _⟩, ⟨(St.all_bd hst 2).1, Int.le_refl _⟩, (St.all_bd hst 3).1, Int.le_refl _⟩
  refine (St.planN_all hst st.lots.toNat st.all ha).1 _ ?_
  rw [List.getD_eq_getElem?_getD, List.getElem?_eq_getElem hj]
  exact List.getElem_mem _
/-- the plan that is told is one, and brings what is said -/
theorem St.plan_earns {st : St} (hst : st.ok) : st.earnsR (st.planN st.lots.toNat st.all).length st.planL = ((st.choose st.lots.toNat st.all).2, 0) := by
  have ha : st.all.in_ st.all := ⟨⟨(St.all_bd hst 0).1, Int.le_refl _⟩, ⟨(St.all_bd hst 1).1, Int.le_refl _⟩, ⟨(St.all_bd hst 2).1, Int.le_refl _⟩, (St.all_bd hst 3).1, Int.le_refl _⟩
  obtain ⟨h1, h2, h3⟩ := St.planN_all hst st.lots.toNat st.all ha
  have hl := St.planN_len st st.lots.toNat st.all
  have l0 := hst.l0
  have e : st.earnsErr (st.planN st.lots.toNat st.all).length st.planL = 0 := by
    unfold St.earnsErr
    rw [if_neg (by simp [St.check_ok.2 hst]), if_neg (by omega)]
    have hf : firstErr (fun j => st.lotErr (st.planL j).1 (st.planL j).2) (st.planN st.lots.toNat st.all).length = 0 := firstErr_zero (fun j hj => St.lot_in hst.n4 (St.plan_get hst hj).1)
    rw [hf, if_neg (by simp), if_neg]
    rw [allN_iff.2 (fun p hp => by
      have h4 := h2 p
      rw [st.all_at p (by have := hst.n4; omega), if_pos hp] at h4
      simpa [planSum, St.planL] using h4)]
    decide
  unfold St.earnsR
  rw [e, if_neg (by simp), ← h3]
  congr 1
  exact sumN_congr (fun j hj => by
    show st.brings (bagOf ((st.planN st.lots.toNat st.all).getD j bagZ).at st.n) = _
    rw [bagOf_at_in hst.n4 (St.plan_get hst hj).1])
theorem St.brings_in {st : St} (hst : st.ok) {x : Bag} (h : x.in_ st.all) : st.bringsR st.n x.at = (st.brings x, 0) := by
  unfold St.bringsR
  rw [if_neg (by simp [St.ask_in hst h]), bagOf_at_in hst.n4 h]
/-- rows of bags are rows of a plan -/
theorem RowsOf.plan {w : World} {A : Option Addr} {n : Nat} {l : List Bag} (h : RowsOf w w.heap.size A n l) (L : Nat → Nat × (Nat → Int)) (hL : ∀ j x, l[j]? = some x → L j = (n, x.at)) : PlanRow w w.heap.size A l.length L := fun k hk => by
  obtain ⟨b, o, rb, h1, h2, h3, h4, h5⟩ := h k l[k] (List.getElem?_eq_getElem hk)
  have e := hL k l[k] (List.getElem?_eq_getElem hk)
  refine ⟨b, o, some ⟨rb, 0, none⟩, n, h1, h2, by rw [e]; exact h3, by rw [e]; exact Nat.le_refl _, ?_⟩
  rw [e]
  exact fun i hi => ⟨rb, 0, rfl, h4, by rw [Nat.zero_add]; exact h5 i hi⟩
end Go.Proofs.Ytegmomappbehcaa

set_option linter.unusedSimpArgs false
set_option linter.unusedVariables false
namespace Go.Proofs.Ytegmomappbehcaa
open Go.RowKit Go.Shelf

/-- rows that were copied so far -/
def RowsAt (w : World) (lo : Nat) (v : Value) (k : Nat) (L : Nat → Nat × (Nat → Int)) (vs : List Value) : Prop :=
  ∀ j, j < k → ∃ rA rc, vs[j]? = some (.slice rA (L j).1 rc) ∧ (L j).1 ≤ rc ∧ ∀ i, i < (L j).1 → ∃ b, rA = some ⟨b, 0, none⟩ ∧ lo ≤ b ∧ b < w.heap.size ∧ v.ownBlock ≠ some b ∧ w.cell? ⟨b, i, none⟩ = some (.int .i64 ((L j).2 i))
/-- rows of numbers of one's own -/
def PlanOwn (w : World) (lo : Nat) (A : Option Addr) (m : Nat) (L : Nat → Nat × (Nat → Int)) : Prop :=
  ∀ k, k < m → ∃ b rA rc, A = some ⟨b, 0, none⟩ ∧ lo ≤ b ∧ b < w.heap.size ∧ w.cell? ⟨b, k, none⟩ = some (.slice rA (L k).1 rc) ∧ (L k).1 ≤ rc ∧ ∀ i, i < (L k).1 → ∃ rb, rA = some ⟨rb, 0, none⟩ ∧ lo ≤ rb ∧ rb < w.heap.size ∧ w.cell? ⟨rb, i, none⟩ = some (.int .i64 ((L k).2 i))
theorem PlanOwn.row {w : World} {lo m : Nat} {A : Option Addr} {L : Nat → Nat × (Nat → Int)} (h : PlanOwn w lo A m L) : PlanRow w w.heap.size A m L := fun k hk => by
  obtain ⟨b, rA, rc, h1, h2, h3, h4, h5, h6⟩ := h k hk
  refine ⟨b, 0, rA, rc, h1, h3, by rw [Nat.zero_add]; exact h4, h5, fun i hi => ?_⟩
  obtain ⟨rb, e1, e2, e3, e4⟩ := h6 i hi
  exact ⟨rb, 0, e1, e3, by rw [Nat.zero_add]; exact e4⟩
theorem PlanOwn.keep {w w' : World} {lo m : Nat} {A : Option Addr} {L : Nat → Nat × (Nat → Int)} (h : PlanOwn w lo A m L) (hs : w.heap.size ≤ w'.heap.size) (hk : ∀ b, lo ≤ b → b < w.heap.size → w'.heap[b]? = w.heap[b]?) : PlanOwn w' lo A m L := fun k hkm => by
  obtain ⟨b, rA, rc, h1, h2, h3, h4, h5, h6⟩ := h k hkm
  refine ⟨b, rA, rc, h1, h2, by omega, cell_same (hk b h2 h3) h4, h5, fun i hi => ?_⟩
  obtain ⟨rb, e1, e2, e3, e4⟩ := h6 i hi
  exact ⟨rb, e1, e2, by omega, cell_same (hk rb e2 e3) e4⟩
theorem RowsAt.step {wr w5 w5' w6 : World} {v v' : Value} {k lo g H : Nat} {L : Nat → Nat × (Nat → Int)} {vs : List Value} {rA : Option Addr} {rc : Nat} (h : RowsAt wr lo v k L vs) (hl : vs.length = k) (hlo : lo ≤ wr.heap.size) (hv : ∀ b, v.ownBlock = some b → b < wr.heap.size)
    (hb : Below wr.heap.size wr w5) (ho : OwnInt w5 wr.heap.size rA (L k).1 (L k).2) (hrc : (L k).1 ≤ rc) (ha : ∀ b, b < w5.heap.size → w5'.heap[b]? = w5.heap[b]?) (hs : w5.heap.size ≤ w5'.heap.size) (hg : w5'.grownBy w6 v.ownBlock) (hv' : v'.ownBlock = some g) (hgg : v.ownBlock = some g ∨ g = H) (hH : w5.heap.size ≤ H) :
    RowsAt w6 lo v' (k + 1) L (vs ++ [.slice rA (L k).1 rc]) := fun j hj => by
  have hs1 := hb.size
  have hs2 := hg.size
  rcases Nat.lt_or_ge j k with h1 | h1
  · obtain ⟨qA, qc, e1, e2, e3⟩ := h j h1
    refine ⟨qA, qc, by rw [List.getElem?_append_left (by omega)]; exact e1, e2, fun i hi => ?_⟩
    obtain ⟨b, f1, f0, f2, f3, f4⟩ := e3 i hi
    refine ⟨b, f1, f0, by omega, ?_, cell_same ((hg.block b (by omega) (fun e => f3 e.symm)).trans ((ha b (by omega)).trans (hb.block b f2))) f4⟩
    rw [hv']
    intro e
    injection e with e
    rcases hgg with h2 | h2
    · exact f3 (by rw [h2, e])
    · omega
  · obtain rfl : j = k := by omega
    refine ⟨rA, rc, by rw [List.getElem?_append_right (by omega), hl]; simp, hrc, fun i hi => ?_⟩
    obtain ⟨b, f1, f2, f3, _⟩ := ho i hi
    have f4 := World.block_lt_of_cell? w5 _ f3
    dsimp only at f4
    have hne : v.ownBlock ≠ some b := fun e => by have := hv b e; omega
    refine ⟨b, f1, by omega, by omega, ?_, cell_same ((hg.block b (by omega) (fun e => hne e.symm)).trans (ha b f4)) f3⟩
    rw [hv']
    intro e
    injection e with e
    rcases hgg with h2 | h2
    · exact hne (by rw [h2, e])
    · omega

set_option maxRecDepth 100000 in
set_option maxHeartbeats 2000000 in
theorem copyrows_any (A : Option Addr) (m c : Nat) (L : Nat → Nat × (Nat → Int)) (W : World) (hl : PlanRow W W.heap.size A m L) (hm : m ≤ 1000) (hlen : ∀ k, k < m → (L k).1 ≤ 1000) :
    Calls Try.prog 60 #[.slice A m c] W fun e W' => Below W.heap.size W W' ∧ ∃ A' c', e = .returned (.slice A' m c') ∧ PlanOwn W' W.heap.size A' m L ∧ m ≤ c' := by
  have HL := Lib.hid hl
  have HLEN := Lib.hid hlen
  clear hl hlen
  obtain ⟨i0, hi, hz0, hz1, hz2⟩ := info_parts infoRow
  go_enter Try.func60, Try.ntmps60
  go_wp2_with fail
  go_loopw [3, 8] (fun v i wr => ∃ (k : Nat) (vs : List Value), k ≤ m ∧ i = .int .i64 k ∧ Hid (vs.length = k) ∧ Hid (wr.ownsRow W.heap.size 26 1 v k vs) ∧ Hid (RowsAt wr W.heap.size v k L vs) ∧ Hid (Below W.heap.size W wr)) (fun _ i _ => m - (intOf i).toNat)
  case atStart => exact ⟨0, [], Nat.zero_le _, rfl, Lib.hid rfl, Lib.hid (World.ownsRow_nil _ _ _ _), Lib.hid (fun j hj => absurd hj (by omega)), Lib.hid (Below.refl _ _)⟩
  case round =>
    obtain ⟨k, vs, hk, rfl, hvs, hown, hrs, hbw⟩ := hrel
    have hsw := hbw.out.size
    by_cases hlt : k < m
    · obtain ⟨b, o, rA, rc, rfl, hbl, c0, hrc, hri⟩ := (HL.out.later hbw.out) k hlt
      have hk0 : (0 : Int) ≤ (k : Int) := by omega
      have hkn : (k : Int) < (m : Int) := by omega
      have hll := HLEN.out k hlt
      have HRI := Lib.hid hri
      have hv1 := hown.out.lt
      clear hri
      go_wp2_with fail
      refine (copy_int rA (L k).1 rc (L k).2 _ HRI.out hll).mono ?_
      rintro e w5 ⟨hb, qA, qc, rfl, hro, hqc⟩
      have HB5 := Lib.hid hb
      have HRO := Lib.hid hro
      have hs5 := hb.size
      clear hb hro c0
      go_wp2_with (at_builtin; refine wpList_append_lies _ rfl (.tmp 12) (.tmp 15) 84 rfl W.heap.size 26 i0 (.slice none 0 0) 1 24 rows_under hi hz0 hz1 hz2 rfl (by decide) u3 k vs rfl ((owns_later hown.out HB5.out).alloc _) ⟨w5.heap.size, 0, none⟩ 1 1 [.slice qA (L k).1 qc] rfl rfl (new_cells (cs := [.slice qA (L k).1 qc])) (by intro u hu; simp only [List.mem_cons, List.not_mem_nil, or_false] at hu; subst hu; rfl) (by omega) (by unfold maxLen; omega) (by omega) (by simp; omega) (w5.heap.size + 1) (by simp) ?_; intro g cap w6 hown6 hgr6 hat6 hlt6)
      have HR6 : Hid (RowsAt w6 W.heap.size (.slice (some ⟨g, 0, none⟩) (k + 1) cap) (k + 1) L (vs ++ [.slice qA (L k).1 qc])) := Lib.hid (hrs.out.step (g := g) (H := w5.heap.size + 1) hvs.out hsw (fun b hb => (hv1 b hb).2) HB5.out HRO.out hqc (fun b hb => Below.heap_alloc _ _ _ hb) (by simp) hgr6 rfl hat6 (by omega))
      have HO6 : Hid (w6.ownsRow W.heap.size 26 1 (.slice (some ⟨g, 0, none⟩) (k + 1) cap) (k + 1) (vs ++ [.slice qA (L k).1 qc])) := Lib.hid hown6
      have HB6 : Hid (Below W.heap.size W w6) := Lib.hid (Below.grown ((hbw.out.trans (HB5.out.mono hsw)).trans (show Below W.heap.size w5 _ from (by repeat (first | (with_reducible exact Below.refl _ _) | (with_reducible assumption) | (with_reducible refine Below.drew ?_) | ((with_reducible refine below_alloc ?_ ?_ _); (· (first | exact Nat.le_refl _ | omega | (dsimp only; omega) | (simp only [World.size_alloc, World.size_drew, World.heap_drewN]; omega) | (simp; omega)))) | ((with_reducible refine below_set ?_ ?_ _); (· (first | exact Nat.le_refl _ | omega | (dsimp only; omega) | (simp only [World.size_alloc, World.size_drew, World.heap_drewN]; omega) | (simp; omega)))) | ((with_reducible refine below_via (by with_reducible assumption) ?_ ?_); (· (first | exact Nat.le_refl _ | omega | (dsimp only; omega) | (simp only [World.size_alloc, World.size_drew, World.heap_drewN]; omega) | (simp; omega)))))))) hgr6 (by simp; omega) (fun k hk => (hv1 k hk).1))
      clear hown6 hgr6 hat6 hlt6
      go_wp2_with fail
      go_roundw
      case rel => exact ⟨k + 1, _, by omega, by go_num, Lib.hid (by rw [List.length_append, hvs.out]; rfl), HO6, HR6, HB6⟩
      case measure => simp [intOf]; omega
    · obtain rfl : k = m := by omega
      have hge : ¬ (k : Int) < (k : Int) := by omega
      have hres : Hid (∃ A c, u3 = .slice A k c ∧ PlanOwn wr W.heap.size A k L ∧ k ≤ c) := Lib.hid (by
        rcases hown.out.2 with ⟨h1, h2⟩ | ⟨g, cap, cur, h1, hb, hg, hc, _⟩
        · exact ⟨none, 0, by rw [h1, h2], fun j hj => by omega, by omega⟩
        · refine ⟨some ⟨g, 0, none⟩, cap, h1, fun j hj => ?_, hc⟩
          obtain ⟨rA, rc, e1, e2, e3⟩ := hrs.out j hj
          refine ⟨g, rA, rc, rfl, hb, (Array.getElem?_eq_some_iff.1 hg).1, ?_, e2, fun i hi => ?_⟩
          · rw [show (⟨g, j, none⟩ : Addr) = (⟨g, 0, none⟩ : Addr).add j by by_cases hj : j = 0 <;> simp [Addr.add, hj]]
            exact hown.out.cells (g := g) (by rw [h1]; rfl) j _ e1
          · obtain ⟨b, f1, f0, f2, _, f4⟩ := e3 i hi
            exact ⟨b, f1, f0, f2, f4⟩)
      obtain ⟨A', c', hu, hro, hlc⟩ := hres.out
      have HRO := Lib.hid hro
      subst hu
      clear hro
      go_wp2_with fail
      go_ret
      exact ⟨hbw.out, A', c', rfl, HRO.out, hlc⟩

set_option maxRecDepth 100000 in
set_option maxHeartbeats 1000000 in
/-- AlikeRows of one list in two places -/
theorem alikerows_any (A C : Option Addr) (m ca cc : Nat) (L : Nat → Nat × (Nat → Int)) (W : World) (hA : PlanRow W W.heap.size A m L) (hC : PlanRow W W.heap.size C m L) (hm : m ≤ 1000) (hlen : ∀ k, k < m → (L k).1 ≤ 1000) :
    Calls Try.prog 67 #[.slice A m ca, .slice C m cc] W fun e W' => e = .returned (.bool true) ∧ Below W.heap.size W W' := by
  have HA := Lib.hid hA
  have HC := Lib.hid hC
  have HLEN := Lib.hid hlen
  have hmm : ((m : Int) != (m : Int)) = false := by simp
  clear hA hC hlen
  go_enter Try.func67, Try.ntmps67
  go_wp2_with fail
  go_loopw [14] (fun i wr => ∃ k : Nat, k ≤ m ∧ i = .int .i64 k ∧ Hid (Below W.heap.size W wr)) (fun i _ => m - (intOf i).toNat)
  case atStart => exact ⟨0, Nat.zero_le _, rfl, Lib.hid (Below.refl _ _)⟩
  case round =>
    obtain ⟨k, hk, rfl, hbw⟩ := hrel
    have hsw := hbw.out.size
    by_cases hlt : k < m
    · obtain ⟨b, o, rA, rc, rfl, hbl, c0, hrc, hri⟩ := (HA.out.later hbw.out) k hlt
      obtain ⟨b2, o2, rA2, rc2, rfl, hbl2, c02, hrc2, hri2⟩ := (HC.out.later hbw.out) k hlt
      have hk0 : (0 : Int) ≤ (k : Int) := by omega
      have hkn : (k : Int) < (m : Int) := by omega
      have hll := HLEN.out k hlt
      have HRI := Lib.hid hri
      have HRI2 := Lib.hid hri2
      clear hri hri2
      go_wp2_with fail
      refine (alike_int rA rA2 (L k).1 (L k).1 rc rc2 (L k).2 (L k).2 _ HRI.out HRI2.out hll).mono ?_
      rintro e w5 ⟨rfl, hb⟩
      rw [alln_int, decide_eq_true rfl]
      have HB5 := Lib.hid (hbw.out.trans (hb.mono hsw))
      clear hb c0 c02
      go_wp2_with fail
      go_roundw
      case rel => exact ⟨k + 1, by omega, by go_num, HB5⟩
      case measure => simp [intOf]; omega
    · obtain rfl : k = m := by omega
      have hge : ¬ (k : Int) < (k : Int) := by omega
      go_wp2_with fail
      go_ret
      exact ⟨rfl, hbw.out⟩

def wideB (m : Nat) (L : Nat → Nat × (Nat → Int)) : Bool := !(allN (fun k => decide ((L k).1 ≤ 6)) m) || decide (5 < m)
set_option maxRecDepth 100000 in
set_option maxHeartbeats 1000000 in
theorem wide_any (A : Option Addr) (m c : Nat) (L : Nat → Nat × (Nat → Int)) (W : World) (hA : PlanRow W W.heap.size A m L) (hmx : m ≤ 9223372036854775807) :
    Calls Try.prog 59 #[.slice A m c] W fun e W' => e = .returned (.bool (wideB m L)) ∧ Below W.heap.size W W' := by
  have HA := Lib.hid hA
  clear hA
  go_enter Try.func59, Try.ntmps59
  go_wp2_with fail
  go_loopw [7] (fun i wr => ∃ k : Nat, k ≤ m ∧ i = .int .i64 k ∧ Hid (∀ j, j < k → (L j).1 ≤ 6) ∧ wr = W) (fun i _ => m - (intOf i).toNat)
  case atStart => exact ⟨0, Nat.zero_le _, rfl, Lib.hid (fun j hj => absurd hj (by omega)), rfl⟩
  case round =>
    obtain ⟨k, hk, rfl, hall, rfl⟩ := hrel
    by_cases hlt : k < m
    · obtain ⟨b, o, rA, rc, rfl, hbl, c0, hrc, hri⟩ := HA.out k hlt
      have hk0 : (0 : Int) ≤ (k : Int) := by omega
      have hkn : (k : Int) < (m : Int) := by omega
      clear hri
      by_cases h6 : 6 < (L k).1
      · have h6' : (6 : Int) < (((L k).1 : Nat) : Int) := by omega
        have HV : Hid (wideB m L = true) := Lib.hid (by
          have : allN (fun k => decide ((L k).1 ≤ 6)) m = false := allN_false (k := k) hlt (by simp; omega)
          unfold wideB; rw [this]; rfl)
        clear h6
        go_wp2_with fail
        go_ret
        exact ⟨by rw [HV.out]; rfl, Below.refl _ _⟩
      · have h6' : ¬ (6 : Int) < (((L k).1 : Nat) : Int) := by omega
        have H6 := Lib.hid h6
        clear h6
        go_wp2_with fail
        go_roundw
        case rel => exact ⟨k + 1, by omega, by go_num, Lib.hid (fun j hj => by rcases Nat.lt_or_ge j k with h | h; exact hall.out j h; rw [show j = k from by omega]; have := H6.out; omega), trivial⟩
        case measure => simp [intOf]; omega
    · obtain rfl : k = m := by omega
      have hge : ¬ (k : Int) < (k : Int) := by omega
      have HV : Hid (wideB k L = decide ((5 : Int) < (k : Int))) := Lib.hid (by
        have : allN (fun j => decide ((L j).1 ≤ 6)) k = true := allN_iff.2 (fun j hj => by simpa using hall.out j hj)
        unfold wideB; rw [this, Bool.not_true, Bool.false_or]
        rw [Bool.eq_iff_iff]; simp; omega)
      go_wp2_with fail
      go_ret
      exact ⟨by rw [HV.out]; rfl, Below.refl _ _⟩
end Go.Proofs.Ytegmomappbehcaa

set_option linter.unusedSimpArgs false
set_option linter.unusedVariables false
namespace Go.Proofs.Ytegmomappbehcaa
open Go.ChangeShapes Go.WideShapes Go.ChangeAt Go.RowKit Go.Deep Go.Joins

section
variable {H : Type} {enc : TypeId × Value → H} {w : World} {base : Nat} {spare : Nat → Bool} {held : Bool}

set_option maxRecDepth 100000 in
theorem open_planrow {fuel : Nat} {v : Value} {x : DataW H × List MemPlace} (h : DataW.trod enc Try.prog w base spare held fuel 84 [v] = some x) : ∃ A m c L, v = .slice A m c ∧ PlanRow w w.heap.size A m L ∧ m ≤ c ∧ c ≤ maxLen := by
  rcases open_slice (e := 26) Try.underlying84 h with ⟨h0, _⟩ | ⟨a, len, cap, m, n, D, Pl, hcs, hb, hl, hm, hmm, hx, hi⟩
  · injection h0 with h0
    exact ⟨none, 0, 0, fun _ => (0, fun _ => 0), h0, fun k hk => absurd hk (by omega), Nat.le_refl _, Nat.zero_le _⟩
  · injection hcs with hcs
    have each : ∀ i, ∃ y : Nat × (Nat → Int), i < len → ∃ rA rc, w.cell? (a.add i) = some (.slice rA y.1 rc) ∧ y.1 ≤ rc ∧ IntRow w w.heap.size rA y.1 y.2 := fun i => by
      by_cases hil : i < len
      · have him : i < m := by rw [hmm]; split <;> omega
        obtain ⟨cs', hc, ht'⟩ := hi i him
        rw [show Try.prog.cellsOf 26 = 1 by kernel_rfl, Nat.mul_one] at hc
        obtain ⟨_, hcl, hat⟩ := World.cells?_some hc
        obtain ⟨v', rfl⟩ : ∃ v', cs' = [v'] := by
          match cs', hcl with
          | [v'], _ => exact ⟨v', rfl⟩
        obtain ⟨rA, rn, rc, X, rfl, hr, hrc⟩ := open_introw ht'
        have h1 := hat 0 (by simp)
        exact ⟨(rn, X), fun _ => ⟨rA, rc, by simpa [Addr.add] using h1, hrc, hr⟩⟩
      · exact ⟨(0, fun _ => 0), fun h => absurd h hil⟩
    obtain ⟨L, hL⟩ := Classical.axiomOfChoice each
    refine ⟨some a, len, cap, L, hcs, fun k hk => ?_, hl, hm⟩
    obtain ⟨rA, rc, h1, h2, h3⟩ := hL k hk
    have hsp : a.spot = none := by
      obtain ⟨rA0, rc0, h10, _⟩ := hL 0 (by omega)
      simpa [Addr.add] using World.cell?_spot h10
    obtain ⟨b, o, sp⟩ := a
    simp only at hsp
    subst hsp
    have e : ∀ j, (⟨b, o, none⟩ : Addr).add j = ⟨b, o + j, none⟩ := fun j => Addr.add_lit _ _ _
    exact ⟨b, o, rA, rc, rfl, by have := World.block_lt_of_cell? w _ h1; rw [e] at this; exact this, (congrArg w.cell? (e k)).symm.trans h1, h2, h3⟩
end
end Go.Proofs.Ytegmomappbehcaa
