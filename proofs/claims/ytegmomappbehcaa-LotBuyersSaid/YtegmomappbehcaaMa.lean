/- The law LotBuyers, walked. -/
import Derived.Test.YtegmomappbehcaaLc
import Derived.Test.YtegmomappbehcaaTh
set_option linter.unusedSimpArgs false
set_option linter.unusedVariables false
namespace Go.Proofs.Ytegmomappbehcaa
open Go.RowKit Go.Shelf

set_option maxRecDepth 100000 in
set_option maxHeartbeats 0 in
theorem buyers_in (st : St) (B : Nat) (pA gA : Option Addr) (pc gc : Nat) (lA : Option Addr) (ln lc : Nat) (X : Nat → Int) (opened found : Int) (W : World) (hs : StRow W B st pA pc gA gc) (hl : IntRow W W.heap.size lA ln X) (h1 : st.n ≤ 6) (h2 : st.m ≤ 6) (h3 : ln ≤ 8) :
    Calls Try.prog 4 #[stV pA st.n pc gA st.m gc st.lots, .slice lA ln lc, .int .i64 opened, .int .i64 found] W fun e W' => e = .returned (.bool true) ∧ Below W.heap.size W W' := by
  have HS := Lib.hid hs; have HL := Lib.hid hl; have hB := hs.lt; clear hs hl
  have hlong : (decide (6 < st.n) || decide (6 < st.m)) = false := by simp; omega
  have hln : ¬ (8 : Int) < (ln : Int) := by omega
  go_enter Try.func4, Try.ntmps4
  go_wp2_with fail
  refine (long_any pA gA st.n pc st.m gc st.lots _).mono ?_
  rintro e w1 ⟨rfl, hb1⟩
  rw [hlong]
  have HB1 := Lib.hid (show Below W.heap.size W w1 from (by repeat (first | (with_reducible exact Below.refl _ _) | (with_reducible refine Below.drew ?_) | (with_reducible refine below_drewN ?_ _) | ((with_reducible refine below_alloc ?_ ?_ _); · (first | exact Nat.le_refl _ | omega | (simp; done) | (simp; omega) | (simp at *; omega))) | ((with_reducible refine below_set ?_ ?_ _); · (first | exact Nat.le_refl _ | omega | (simp; done) | (simp; omega) | (simp at *; omega))) | ((with_reducible refine below_via (by with_reducible assumption) ?_ ?_); · (first | exact Nat.le_refl _ | omega | (simp; done) | (simp; omega) | (simp at *; omega))))))
  have hs1 := hb1.size
  simp only [World.size_alloc] at hs1
  have a0 : w1.cell? ⟨W.heap.size, 0, none⟩ = some (.slice pA st.n pc) := cell_below_of hb1 (by (repeat' refine And.intro ?_ ?_) <;> (repeat (first | (with_reducible assumption) | (simp; done) | (with_reducible refine cell_drew_of ?_) | (with_reducible refine cell_drewN_of ?_) | (with_reducible refine cell_below_of (by with_reducible assumption) ?_) | ((with_reducible refine cell_new_of ?_ ?_) <;> (first | (with_reducible rfl) | (simp; done))) | ((with_reducible refine fro_new_of ?_) <;> (first | (with_reducible rfl) | (simp; done))) | (with_reducible refine cell_alloc_of _ ?_) | (with_reducible refine cell_set_of _ (by (first | exact Nat.le_refl _ | omega | (simp; done) | (simp; omega))) ?_) | (with_reducible refine fro_drew_of ?_) | (with_reducible refine fro_drewN_of ?_) | (with_reducible refine fro_below_of (by with_reducible assumption) (by (first | exact Nat.le_refl _ | omega | (simp; done) | (simp; omega))) ?_) | (with_reducible refine fro_alloc_of _ (by (first | exact Nat.le_refl _ | omega | (simp; done) | (simp; omega))) ?_) | (with_reducible refine fro_set_of _ ?_))))
  have a1 : w1.cell? ⟨W.heap.size, 1, none⟩ = some (.slice gA st.m gc) := cell_below_of hb1 (by (repeat' refine And.intro ?_ ?_) <;> (repeat (first | (with_reducible assumption) | (simp; done) | (with_reducible refine cell_drew_of ?_) | (with_reducible refine cell_drewN_of ?_) | (with_reducible refine cell_below_of (by with_reducible assumption) ?_) | ((with_reducible refine cell_new_of ?_ ?_) <;> (first | (with_reducible rfl) | (simp; done))) | ((with_reducible refine fro_new_of ?_) <;> (first | (with_reducible rfl) | (simp; done))) | (with_reducible refine cell_alloc_of _ ?_) | (with_reducible refine cell_set_of _ (by (first | exact Nat.le_refl _ | omega | (simp; done) | (simp; omega))) ?_) | (with_reducible refine fro_drew_of ?_) | (with_reducible refine fro_drewN_of ?_) | (with_reducible refine fro_below_of (by with_reducible assumption) (by (first | exact Nat.le_refl _ | omega | (simp; done) | (simp; omega))) ?_) | (with_reducible refine fro_alloc_of _ (by (first | exact Nat.le_refl _ | omega | (simp; done) | (simp; omega))) ?_) | (with_reducible refine fro_set_of _ ?_))))
  have a2 : w1.cell? ⟨W.heap.size, 2, none⟩ = some (.int .i64 st.lots) := cell_below_of hb1 (by (repeat' refine And.intro ?_ ?_) <;> (repeat (first | (with_reducible assumption) | (simp; done) | (with_reducible refine cell_drew_of ?_) | (with_reducible refine cell_drewN_of ?_) | (with_reducible refine cell_below_of (by with_reducible assumption) ?_) | ((with_reducible refine cell_new_of ?_ ?_) <;> (first | (with_reducible rfl) | (simp; done))) | ((with_reducible refine fro_new_of ?_) <;> (first | (with_reducible rfl) | (simp; done))) | (with_reducible refine cell_alloc_of _ ?_) | (with_reducible refine cell_set_of _ (by (first | exact Nat.le_refl _ | omega | (simp; done) | (simp; omega))) ?_) | (with_reducible refine fro_drew_of ?_) | (with_reducible refine fro_drewN_of ?_) | (with_reducible refine fro_below_of (by with_reducible assumption) (by (first | exact Nat.le_refl _ | omega | (simp; done) | (simp; omega))) ?_) | (with_reducible refine fro_alloc_of _ (by (first | exact Nat.le_refl _ | omega | (simp; done) | (simp; omega))) ?_) | (with_reducible refine fro_set_of _ ?_))))
  have HA := Lib.hid (show _ ∧ _ ∧ _ from ⟨a0, a1, a2⟩)
  clear hb1
  go_upto_region 3 with fail
  go_cut [9, 10, 11] (fun x y z wx => ∃ b1 b2 pA1 gA1 pA2 gA2 pc1 gc1 pc2 gc2 mA mc, x = .pointer (some ⟨b1, 0, none⟩) ∧ y = .slice mA ln mc ∧ z = .pointer (some ⟨b2, 0, none⟩) ∧
    Hid (LawAt wx st W.heap.size b1 b2 pA gA pA1 gA1 pA2 gA2 pc gc pc1 gc1 pc2 gc2) ∧ Hid (IntRow wx wx.heap.size lA ln X) ∧ Hid (IntRow wx wx.heap.size mA ln X) ∧ Hid (Below W.heap.size W wx))
  case first =>
    go_region_held3 (fun w' => w'.cell? ⟨W.heap.size, 0, none⟩ = some (.slice pA st.n pc) ∧ w'.cell? ⟨W.heap.size, 1, none⟩ = some (.slice gA st.m gc) ∧ w'.cell? ⟨W.heap.size, 2, none⟩ = some (.int .i64 st.lots)) ((go_split_ands; (repeat' refine And.intro ?_ ?_) <;> (repeat (first | (with_reducible assumption) | (simp; done) | (with_reducible refine cell_drew_of ?_) | (with_reducible refine cell_drewN_of ?_) | (with_reducible refine cell_below_of (by with_reducible assumption) ?_) | ((with_reducible refine cell_new_of ?_ ?_) <;> (first | (with_reducible rfl) | (simp; done))) | ((with_reducible refine fro_new_of ?_) <;> (first | (with_reducible rfl) | (simp; done))) | (with_reducible refine cell_alloc_of _ ?_) | (with_reducible refine cell_set_of _ (by (first | exact Nat.le_refl _ | omega | (simp; done) | (simp; omega))) ?_) | (with_reducible refine fro_drew_of ?_) | (with_reducible refine fro_drewN_of ?_) | (with_reducible refine fro_below_of (by with_reducible assumption) (by (first | exact Nat.le_refl _ | omega | (simp; done) | (simp; omega))) ?_) | (with_reducible refine fro_alloc_of _ (by (first | exact Nat.le_refl _ | omega | (simp; done) | (simp; omega))) ?_) | (with_reducible refine fro_set_of _ ?_))))) (first | (go_at_call 18; refine (own_any st B pA gA pc gc _ (HS.out.later ((show Below W.heap.size W _ from HB1.out.trans ((show Below w1.heap.size w1 _ from (by repeat (first | (with_reducible exact Below.refl _ _) | (with_reducible refine Below.drew ?_) | (with_reducible refine below_drewN ?_ _) | ((with_reducible refine below_alloc ?_ ?_ _); · (first | exact Nat.le_refl _ | omega | (simp; done) | (simp; omega) | (simp at *; omega))) | ((with_reducible refine below_set ?_ ?_ _); · (first | exact Nat.le_refl _ | omega | (simp; done) | (simp; omega) | (simp at *; omega))) | ((with_reducible refine below_via (by with_reducible assumption) ?_ ?_); · (first | exact Nat.le_refl _ | omega | (simp; done) | (simp; omega) | (simp at *; omega)))))).mono (by omega))).mono hB))).mono ?_; rintro e wp ⟨hbp, pA1, pc1, gA1, gc1, rfl, hop, hog, hpc1, hgc1, _⟩; have hhP := Lib.hid (show Below w1.heap.size w1 wp from (by repeat (first | (with_reducible exact Below.refl _ _) | (with_reducible assumption) | (with_reducible refine Below.drew ?_) | ((with_reducible refine below_alloc ?_ ?_ _); (· (first | exact Nat.le_refl _ | omega | (dsimp only; omega) | (simp only [World.size_alloc, World.size_drew, World.heap_drewN]; omega) | (simp; omega)))) | ((with_reducible refine below_set ?_ ?_ _); (· (first | exact Nat.le_refl _ | omega | (dsimp only; omega) | (simp only [World.size_alloc, World.size_drew, World.heap_drewN]; omega) | (simp; omega)))) | ((with_reducible refine below_via (by with_reducible assumption) ?_ ?_); (· (first | exact Nat.le_refl _ | omega | (dsimp only; omega) | (simp only [World.size_alloc, World.size_drew, World.heap_drewN]; omega) | (simp; omega))))))); have hzp := hbp.size; (try simp only [World.size_drew, World.heap_drewN, World.size_alloc] at hzp);  (try (refine lay_in (A := ((wp.cell? ⟨w1.heap.size, 0, none⟩ = some (.slice none 0 0) ∧ wp.cell? ⟨w1.heap.size, 1, none⟩ = some (.slice none 0 0) ∧ wp.cell? ⟨w1.heap.size, 2, none⟩ = some (.int .i64 0)) ∧ wp.frozen? ⟨w1.heap.size, 0, none⟩ = false ∧ wp.frozen? ⟨w1.heap.size, 1, none⟩ = false ∧ wp.frozen? ⟨w1.heap.size, 2, none⟩ = false)) ?_ ?_; (· ((go_split_ands; (repeat' refine And.intro ?_ ?_) <;> (repeat (first | (with_reducible assumption) | (simp; done) | (with_reducible refine cell_drew_of ?_) | (with_reducible refine cell_drewN_of ?_) | (with_reducible refine cell_below_of (by with_reducible assumption) ?_) | ((with_reducible refine cell_new_of ?_ ?_) <;> (first | (with_reducible rfl) | (simp; done))) | ((with_reducible refine fro_new_of ?_) <;> (first | (with_reducible rfl) | (simp; done))) | (with_reducible refine cell_alloc_of _ ?_) | (with_reducible refine cell_set_of _ (by (first | exact Nat.le_refl _ | omega | (simp; done) | (simp; omega))) ?_) | (with_reducible refine fro_drew_of ?_) | (with_reducible refine fro_drewN_of ?_) | (with_reducible refine fro_below_of (by with_reducible assumption) (by (first | exact Nat.le_refl _ | omega | (simp; done) | (simp; omega))) ?_) | (with_reducible refine fro_alloc_of _ (by (first | exact Nat.le_refl _ | omega | (simp; done) | (simp; omega))) ?_) | (with_reducible refine fro_set_of _ ?_)))))); rintro ⟨⟨_, _, _⟩, _, _, _⟩)); (try (refine lay_in (A := ((wp.cell? ⟨w1.heap.size + 1, 0, none⟩ = some (.slice none 0 0) ∧ wp.cell? ⟨w1.heap.size + 1, 1, none⟩ = some (.slice none 0 0) ∧ wp.cell? ⟨w1.heap.size + 1, 2, none⟩ = some (.int .i64 0)) ∧ wp.frozen? ⟨w1.heap.size + 1, 0, none⟩ = false ∧ wp.frozen? ⟨w1.heap.size + 1, 1, none⟩ = false ∧ wp.frozen? ⟨w1.heap.size + 1, 2, none⟩ = false)) ?_ ?_; (· ((go_split_ands; (repeat' refine And.intro ?_ ?_) <;> (repeat (first | (with_reducible assumption) | (simp; done) | (with_reducible refine cell_drew_of ?_) | (with_reducible refine cell_drewN_of ?_) | (with_reducible refine cell_below_of (by with_reducible assumption) ?_) | ((with_reducible refine cell_new_of ?_ ?_) <;> (first | (with_reducible rfl) | (simp; done))) | ((with_reducible refine fro_new_of ?_) <;> (first | (with_reducible rfl) | (simp; done))) | (with_reducible refine cell_alloc_of _ ?_) | (with_reducible refine cell_set_of _ (by (first | exact Nat.le_refl _ | omega | (simp; done) | (simp; omega))) ?_) | (with_reducible refine fro_drew_of ?_) | (with_reducible refine fro_drewN_of ?_) | (with_reducible refine fro_below_of (by with_reducible assumption) (by (first | exact Nat.le_refl _ | omega | (simp; done) | (simp; omega))) ?_) | (with_reducible refine fro_alloc_of _ (by (first | exact Nat.le_refl _ | omega | (simp; done) | (simp; omega))) ?_) | (with_reducible refine fro_set_of _ ?_)))))); rintro ⟨⟨_, _, _⟩, _, _, _⟩))) | (go_at_call 19; refine (copy_int lA ln lc X _ (HL.out.later (show Below W.heap.size W _ from HB1.out.trans ((show Below w1.heap.size w1 _ from (by repeat (first | (with_reducible exact Below.refl _ _) | (with_reducible refine Below.drew ?_) | (with_reducible refine below_drewN ?_ _) | ((with_reducible refine below_alloc ?_ ?_ _); · (first | exact Nat.le_refl _ | omega | (simp; done) | (simp; omega) | (simp at *; omega))) | ((with_reducible refine below_set ?_ ?_ _); · (first | exact Nat.le_refl _ | omega | (simp; done) | (simp; omega) | (simp at *; omega))) | ((with_reducible refine below_via (by with_reducible assumption) ?_ ?_); · (first | exact Nat.le_refl _ | omega | (simp; done) | (simp; omega) | (simp at *; omega)))))).mono (by omega)))) (by omega)).mono ?_; rintro e wm ⟨hbm, mA, mc, rfl, hom, hmc⟩; have hhM := Lib.hid (show Below wp.heap.size wp wm from (by repeat (first | (with_reducible exact Below.refl _ _) | (with_reducible assumption) | (with_reducible refine Below.drew ?_) | ((with_reducible refine below_alloc ?_ ?_ _); (· (first | exact Nat.le_refl _ | omega | (dsimp only; omega) | (simp only [World.size_alloc, World.size_drew, World.heap_drewN]; omega) | (simp; omega)))) | ((with_reducible refine below_set ?_ ?_ _); (· (first | exact Nat.le_refl _ | omega | (dsimp only; omega) | (simp only [World.size_alloc, World.size_drew, World.heap_drewN]; omega) | (simp; omega)))) | ((with_reducible refine below_via (by with_reducible assumption) ?_ ?_); (· (first | exact Nat.le_refl _ | omega | (dsimp only; omega) | (simp only [World.size_alloc, World.size_drew, World.heap_drewN]; omega) | (simp; omega))))))); have hzm := hbm.size; (try simp only [World.size_drew, World.heap_drewN, World.size_alloc] at hzm);  (try (refine lay_in (A := ((wm.cell? ⟨w1.heap.size, 0, none⟩ = some (.slice none 0 0) ∧ wm.cell? ⟨w1.heap.size, 1, none⟩ = some (.slice none 0 0) ∧ wm.cell? ⟨w1.heap.size, 2, none⟩ = some (.int .i64 0)) ∧ wm.frozen? ⟨w1.heap.size, 0, none⟩ = false ∧ wm.frozen? ⟨w1.heap.size, 1, none⟩ = false ∧ wm.frozen? ⟨w1.heap.size, 2, none⟩ = false)) ?_ ?_; (· ((go_split_ands; (repeat' refine And.intro ?_ ?_) <;> (repeat (first | (with_reducible assumption) | (simp; done) | (with_reducible refine cell_drew_of ?_) | (with_reducible refine cell_drewN_of ?_) | (with_reducible refine cell_below_of (by with_reducible assumption) ?_) | ((with_reducible refine cell_new_of ?_ ?_) <;> (first | (with_reducible rfl) | (simp; done))) | ((with_reducible refine fro_new_of ?_) <;> (first | (with_reducible rfl) | (simp; done))) | (with_reducible refine cell_alloc_of _ ?_) | (with_reducible refine cell_set_of _ (by (first | exact Nat.le_refl _ | omega | (simp; done) | (simp; omega))) ?_) | (with_reducible refine fro_drew_of ?_) | (with_reducible refine fro_drewN_of ?_) | (with_reducible refine fro_below_of (by with_reducible assumption) (by (first | exact Nat.le_refl _ | omega | (simp; done) | (simp; omega))) ?_) | (with_reducible refine fro_alloc_of _ (by (first | exact Nat.le_refl _ | omega | (simp; done) | (simp; omega))) ?_) | (with_reducible refine fro_set_of _ ?_)))))); rintro ⟨⟨_, _, _⟩, _, _, _⟩)); (try (refine lay_in (A := ((wm.cell? ⟨w1.heap.size + 1, 0, none⟩ = some (.slice none 0 0) ∧ wm.cell? ⟨w1.heap.size + 1, 1, none⟩ = some (.slice none 0 0) ∧ wm.cell? ⟨w1.heap.size + 1, 2, none⟩ = some (.int .i64 0)) ∧ wm.frozen? ⟨w1.heap.size + 1, 0, none⟩ = false ∧ wm.frozen? ⟨w1.heap.size + 1, 1, none⟩ = false ∧ wm.frozen? ⟨w1.heap.size + 1, 2, none⟩ = false)) ?_ ?_; (· ((go_split_ands; (repeat' refine And.intro ?_ ?_) <;> (repeat (first | (with_reducible assumption) | (simp; done) | (with_reducible refine cell_drew_of ?_) | (with_reducible refine cell_drewN_of ?_) | (with_reducible refine cell_below_of (by with_reducible assumption) ?_) | ((with_reducible refine cell_new_of ?_ ?_) <;> (first | (with_reducible rfl) | (simp; done))) | ((with_reducible refine fro_new_of ?_) <;> (first | (with_reducible rfl) | (simp; done))) | (with_reducible refine cell_alloc_of _ ?_) | (with_reducible refine cell_set_of _ (by (first | exact Nat.le_refl _ | omega | (simp; done) | (simp; omega))) ?_) | (with_reducible refine fro_drew_of ?_) | (with_reducible refine fro_drewN_of ?_) | (with_reducible refine fro_below_of (by with_reducible assumption) (by (first | exact Nat.le_refl _ | omega | (simp; done) | (simp; omega))) ?_) | (with_reducible refine fro_alloc_of _ (by (first | exact Nat.le_refl _ | omega | (simp; done) | (simp; omega))) ?_) | (with_reducible refine fro_set_of _ ?_)))))); rintro ⟨⟨_, _, _⟩, _, _, _⟩)); (try (refine lay_in (A := ((wm.cell? ⟨wp.heap.size, 0, none⟩ = some (.slice none 0 0) ∧ wm.cell? ⟨wp.heap.size, 1, none⟩ = some (.slice none 0 0) ∧ wm.cell? ⟨wp.heap.size, 2, none⟩ = some (.int .i64 0)) ∧ wm.frozen? ⟨wp.heap.size, 0, none⟩ = false ∧ wm.frozen? ⟨wp.heap.size, 1, none⟩ = false ∧ wm.frozen? ⟨wp.heap.size, 2, none⟩ = false)) ?_ ?_; (· ((go_split_ands; (repeat' refine And.intro ?_ ?_) <;> (repeat (first | (with_reducible assumption) | (simp; done) | (with_reducible refine cell_drew_of ?_) | (with_reducible refine cell_drewN_of ?_) | (with_reducible refine cell_below_of (by with_reducible assumption) ?_) | ((with_reducible refine cell_new_of ?_ ?_) <;> (first | (with_reducible rfl) | (simp; done))) | ((with_reducible refine fro_new_of ?_) <;> (first | (with_reducible rfl) | (simp; done))) | (with_reducible refine cell_alloc_of _ ?_) | (with_reducible refine cell_set_of _ (by (first | exact Nat.le_refl _ | omega | (simp; done) | (simp; omega))) ?_) | (with_reducible refine fro_drew_of ?_) | (with_reducible refine fro_drewN_of ?_) | (with_reducible refine fro_below_of (by with_reducible assumption) (by (first | exact Nat.le_refl _ | omega | (simp; done) | (simp; omega))) ?_) | (with_reducible refine fro_alloc_of _ (by (first | exact Nat.le_refl _ | omega | (simp; done) | (simp; omega))) ?_) | (with_reducible refine fro_set_of _ ?_)))))); rintro ⟨⟨_, _, _⟩, _, _, _⟩)); (try (refine lay_in (A := ((wm.cell? ⟨wp.heap.size + 1, 0, none⟩ = some (.slice none 0 0) ∧ wm.cell? ⟨wp.heap.size + 1, 1, none⟩ = some (.slice none 0 0) ∧ wm.cell? ⟨wp.heap.size + 1, 2, none⟩ = some (.int .i64 0)) ∧ wm.frozen? ⟨wp.heap.size + 1, 0, none⟩ = false ∧ wm.frozen? ⟨wp.heap.size + 1, 1, none⟩ = false ∧ wm.frozen? ⟨wp.heap.size + 1, 2, none⟩ = false)) ?_ ?_; (· ((go_split_ands; (repeat' refine And.intro ?_ ?_) <;> (repeat (first | (with_reducible assumption) | (simp; done) | (with_reducible refine cell_drew_of ?_) | (with_reducible refine cell_drewN_of ?_) | (with_reducible refine cell_below_of (by with_reducible assumption) ?_) | ((with_reducible refine cell_new_of ?_ ?_) <;> (first | (with_reducible rfl) | (simp; done))) | ((with_reducible refine fro_new_of ?_) <;> (first | (with_reducible rfl) | (simp; done))) | (with_reducible refine cell_alloc_of _ ?_) | (with_reducible refine cell_set_of _ (by (first | exact Nat.le_refl _ | omega | (simp; done) | (simp; omega))) ?_) | (with_reducible refine fro_drew_of ?_) | (with_reducible refine fro_drewN_of ?_) | (with_reducible refine fro_below_of (by with_reducible assumption) (by (first | exact Nat.le_refl _ | omega | (simp; done) | (simp; omega))) ?_) | (with_reducible refine fro_alloc_of _ (by (first | exact Nat.le_refl _ | omega | (simp; done) | (simp; omega))) ?_) | (with_reducible refine fro_set_of _ ?_)))))); rintro ⟨⟨_, _, _⟩, _, _, _⟩))) | (go_at_call 20; refine (theirs_any st B pA gA pc gc _ (HS.out.later ((show Below W.heap.size W _ from HB1.out.trans ((show Below w1.heap.size w1 _ from (by repeat (first | (with_reducible exact Below.refl _ _) | (with_reducible refine Below.drew ?_) | (with_reducible refine below_drewN ?_ _) | ((with_reducible refine below_alloc ?_ ?_ _); · (first | exact Nat.le_refl _ | omega | (simp; done) | (simp; omega) | (simp at *; omega))) | ((with_reducible refine below_set ?_ ?_ _); · (first | exact Nat.le_refl _ | omega | (simp; done) | (simp; omega) | (simp at *; omega))) | ((with_reducible refine below_via (by with_reducible assumption) ?_ ?_); · (first | exact Nat.le_refl _ | omega | (simp; done) | (simp; omega) | (simp at *; omega)))))).mono (by omega))).mono hB))).mono ?_; rintro e wt ⟨hbt, pA2, pc2, gA2, gc2, rfl, htp, htg, hpc2, hgc2⟩; have hhT := Lib.hid (show Below wm.heap.size wm wt from (by repeat (first | (with_reducible exact Below.refl _ _) | (with_reducible assumption) | (with_reducible refine Below.drew ?_) | ((with_reducible refine below_alloc ?_ ?_ _); (· (first | exact Nat.le_refl _ | omega | (dsimp only; omega) | (simp only [World.size_alloc, World.size_drew, World.heap_drewN]; omega) | (simp; omega)))) | ((with_reducible refine below_set ?_ ?_ _); (· (first | exact Nat.le_refl _ | omega | (dsimp only; omega) | (simp only [World.size_alloc, World.size_drew, World.heap_drewN]; omega) | (simp; omega)))) | ((with_reducible refine below_via (by with_reducible assumption) ?_ ?_); (· (first | exact Nat.le_refl _ | omega | (dsimp only; omega) | (simp only [World.size_alloc, World.size_drew, World.heap_drewN]; omega) | (simp; omega))))))); have hzt := hbt.size; (try simp only [World.size_drew, World.heap_drewN, World.size_alloc] at hzt);  (try (refine lay_in (A := ((wt.cell? ⟨w1.heap.size, 0, none⟩ = some (.slice none 0 0) ∧ wt.cell? ⟨w1.heap.size, 1, none⟩ = some (.slice none 0 0) ∧ wt.cell? ⟨w1.heap.size, 2, none⟩ = some (.int .i64 0)) ∧ wt.frozen? ⟨w1.heap.size, 0, none⟩ = false ∧ wt.frozen? ⟨w1.heap.size, 1, none⟩ = false ∧ wt.frozen? ⟨w1.heap.size, 2, none⟩ = false)) ?_ ?_; (· ((go_split_ands; (repeat' refine And.intro ?_ ?_) <;> (repeat (first | (with_reducible assumption) | (simp; done) | (with_reducible refine cell_drew_of ?_) | (with_reducible refine cell_drewN_of ?_) | (with_reducible refine cell_below_of (by with_reducible assumption) ?_) | ((with_reducible refine cell_new_of ?_ ?_) <;> (first | (with_reducible rfl) | (simp; done))) | ((with_reducible refine fro_new_of ?_) <;> (first | (with_reducible rfl) | (simp; done))) | (with_reducible refine cell_alloc_of _ ?_) | (with_reducible refine cell_set_of _ (by (first | exact Nat.le_refl _ | omega | (simp; done) | (simp; omega))) ?_) | (with_reducible refine fro_drew_of ?_) | (with_reducible refine fro_drewN_of ?_) | (with_reducible refine fro_below_of (by with_reducible assumption) (by (first | exact Nat.le_refl _ | omega | (simp; done) | (simp; omega))) ?_) | (with_reducible refine fro_alloc_of _ (by (first | exact Nat.le_refl _ | omega | (simp; done) | (simp; omega))) ?_) | (with_reducible refine fro_set_of _ ?_)))))); rintro ⟨⟨_, _, _⟩, _, _, _⟩)); (try (refine lay_in (A := ((wt.cell? ⟨w1.heap.size + 1, 0, none⟩ = some (.slice none 0 0) ∧ wt.cell? ⟨w1.heap.size + 1, 1, none⟩ = some (.slice none 0 0) ∧ wt.cell? ⟨w1.heap.size + 1, 2, none⟩ = some (.int .i64 0)) ∧ wt.frozen? ⟨w1.heap.size + 1, 0, none⟩ = false ∧ wt.frozen? ⟨w1.heap.size + 1, 1, none⟩ = false ∧ wt.frozen? ⟨w1.heap.size + 1, 2, none⟩ = false)) ?_ ?_; (· ((go_split_ands; (repeat' refine And.intro ?_ ?_) <;> (repeat (first | (with_reducible assumption) | (simp; done) | (with_reducible refine cell_drew_of ?_) | (with_reducible refine cell_drewN_of ?_) | (with_reducible refine cell_below_of (by with_reducible assumption) ?_) | ((with_reducible refine cell_new_of ?_ ?_) <;> (first | (with_reducible rfl) | (simp; done))) | ((with_reducible refine fro_new_of ?_) <;> (first | (with_reducible rfl) | (simp; done))) | (with_reducible refine cell_alloc_of _ ?_) | (with_reducible refine cell_set_of _ (by (first | exact Nat.le_refl _ | omega | (simp; done) | (simp; omega))) ?_) | (with_reducible refine fro_drew_of ?_) | (with_reducible refine fro_drewN_of ?_) | (with_reducible refine fro_below_of (by with_reducible assumption) (by (first | exact Nat.le_refl _ | omega | (simp; done) | (simp; omega))) ?_) | (with_reducible refine fro_alloc_of _ (by (first | exact Nat.le_refl _ | omega | (simp; done) | (simp; omega))) ?_) | (with_reducible refine fro_set_of _ ?_)))))); rintro ⟨⟨_, _, _⟩, _, _, _⟩)); (try (refine lay_in (A := ((wt.cell? ⟨wp.heap.size, 0, none⟩ = some (.slice none 0 0) ∧ wt.cell? ⟨wp.heap.size, 1, none⟩ = some (.slice none 0 0) ∧ wt.cell? ⟨wp.heap.size, 2, none⟩ = some (.int .i64 0)) ∧ wt.frozen? ⟨wp.heap.size, 0, none⟩ = false ∧ wt.frozen? ⟨wp.heap.size, 1, none⟩ = false ∧ wt.frozen? ⟨wp.heap.size, 2, none⟩ = false)) ?_ ?_; (· ((go_split_ands; (repeat' refine And.intro ?_ ?_) <;> (repeat (first | (with_reducible assumption) | (simp; done) | (with_reducible refine cell_drew_of ?_) | (with_reducible refine cell_drewN_of ?_) | (with_reducible refine cell_below_of (by with_reducible assumption) ?_) | ((with_reducible refine cell_new_of ?_ ?_) <;> (first | (with_reducible rfl) | (simp; done))) | ((with_reducible refine fro_new_of ?_) <;> (first | (with_reducible rfl) | (simp; done))) | (with_reducible refine cell_alloc_of _ ?_) | (with_reducible refine cell_set_of _ (by (first | exact Nat.le_refl _ | omega | (simp; done) | (simp; omega))) ?_) | (with_reducible refine fro_drew_of ?_) | (with_reducible refine fro_drewN_of ?_) | (with_reducible refine fro_below_of (by with_reducible assumption) (by (first | exact Nat.le_refl _ | omega | (simp; done) | (simp; omega))) ?_) | (with_reducible refine fro_alloc_of _ (by (first | exact Nat.le_refl _ | omega | (simp; done) | (simp; omega))) ?_) | (with_reducible refine fro_set_of _ ?_)))))); rintro ⟨⟨_, _, _⟩, _, _, _⟩)); (try (refine lay_in (A := ((wt.cell? ⟨wp.heap.size + 1, 0, none⟩ = some (.slice none 0 0) ∧ wt.cell? ⟨wp.heap.size + 1, 1, none⟩ = some (.slice none 0 0) ∧ wt.cell? ⟨wp.heap.size + 1, 2, none⟩ = some (.int .i64 0)) ∧ wt.frozen? ⟨wp.heap.size + 1, 0, none⟩ = false ∧ wt.frozen? ⟨wp.heap.size + 1, 1, none⟩ = false ∧ wt.frozen? ⟨wp.heap.size + 1, 2, none⟩ = false)) ?_ ?_; (· ((go_split_ands; (repeat' refine And.intro ?_ ?_) <;> (repeat (first | (with_reducible assumption) | (simp; done) | (with_reducible refine cell_drew_of ?_) | (with_reducible refine cell_drewN_of ?_) | (with_reducible refine cell_below_of (by with_reducible assumption) ?_) | ((with_reducible refine cell_new_of ?_ ?_) <;> (first | (with_reducible rfl) | (simp; done))) | ((with_reducible refine fro_new_of ?_) <;> (first | (with_reducible rfl) | (simp; done))) | (with_reducible refine cell_alloc_of _ ?_) | (with_reducible refine cell_set_of _ (by (first | exact Nat.le_refl _ | omega | (simp; done) | (simp; omega))) ?_) | (with_reducible refine fro_drew_of ?_) | (with_reducible refine fro_drewN_of ?_) | (with_reducible refine fro_below_of (by with_reducible assumption) (by (first | exact Nat.le_refl _ | omega | (simp; done) | (simp; omega))) ?_) | (with_reducible refine fro_alloc_of _ (by (first | exact Nat.le_refl _ | omega | (simp; done) | (simp; omega))) ?_) | (with_reducible refine fro_set_of _ ?_)))))); rintro ⟨⟨_, _, _⟩, _, _, _⟩)); (try (refine lay_in (A := ((wt.cell? ⟨wm.heap.size, 0, none⟩ = some (.slice none 0 0) ∧ wt.cell? ⟨wm.heap.size, 1, none⟩ = some (.slice none 0 0) ∧ wt.cell? ⟨wm.heap.size, 2, none⟩ = some (.int .i64 0)) ∧ wt.frozen? ⟨wm.heap.size, 0, none⟩ = false ∧ wt.frozen? ⟨wm.heap.size, 1, none⟩ = false ∧ wt.frozen? ⟨wm.heap.size, 2, none⟩ = false)) ?_ ?_; (· ((go_split_ands; (repeat' refine And.intro ?_ ?_) <;> (repeat (first | (with_reducible assumption) | (simp; done) | (with_reducible refine cell_drew_of ?_) | (with_reducible refine cell_drewN_of ?_) | (with_reducible refine cell_below_of (by with_reducible assumption) ?_) | ((with_reducible refine cell_new_of ?_ ?_) <;> (first | (with_reducible rfl) | (simp; done))) | ((with_reducible refine fro_new_of ?_) <;> (first | (with_reducible rfl) | (simp; done))) | (with_reducible refine cell_alloc_of _ ?_) | (with_reducible refine cell_set_of _ (by (first | exact Nat.le_refl _ | omega | (simp; done) | (simp; omega))) ?_) | (with_reducible refine fro_drew_of ?_) | (with_reducible refine fro_drewN_of ?_) | (with_reducible refine fro_below_of (by with_reducible assumption) (by (first | exact Nat.le_refl _ | omega | (simp; done) | (simp; omega))) ?_) | (with_reducible refine fro_alloc_of _ (by (first | exact Nat.le_refl _ | omega | (simp; done) | (simp; omega))) ?_) | (with_reducible refine fro_set_of _ ?_)))))); rintro ⟨⟨_, _, _⟩, _, _, _⟩)); (try (refine lay_in (A := ((wt.cell? ⟨wm.heap.size + 1, 0, none⟩ = some (.slice none 0 0) ∧ wt.cell? ⟨wm.heap.size + 1, 1, none⟩ = some (.slice none 0 0) ∧ wt.cell? ⟨wm.heap.size + 1, 2, none⟩ = some (.int .i64 0)) ∧ wt.frozen? ⟨wm.heap.size + 1, 0, none⟩ = false ∧ wt.frozen? ⟨wm.heap.size + 1, 1, none⟩ = false ∧ wt.frozen? ⟨wm.heap.size + 1, 2, none⟩ = false)) ?_ ?_; (· ((go_split_ands; (repeat' refine And.intro ?_ ?_) <;> (repeat (first | (with_reducible assumption) | (simp; done) | (with_reducible refine cell_drew_of ?_) | (with_reducible refine cell_drewN_of ?_) | (with_reducible refine cell_below_of (by with_reducible assumption) ?_) | ((with_reducible refine cell_new_of ?_ ?_) <;> (first | (with_reducible rfl) | (simp; done))) | ((with_reducible refine fro_new_of ?_) <;> (first | (with_reducible rfl) | (simp; done))) | (with_reducible refine cell_alloc_of _ ?_) | (with_reducible refine cell_set_of _ (by (first | exact Nat.le_refl _ | omega | (simp; done) | (simp; omega))) ?_) | (with_reducible refine fro_drew_of ?_) | (with_reducible refine fro_drewN_of ?_) | (with_reducible refine fro_below_of (by with_reducible assumption) (by (first | exact Nat.le_refl _ | omega | (simp; done) | (simp; omega))) ?_) | (with_reducible refine fro_alloc_of _ (by (first | exact Nat.le_refl _ | omega | (simp; done) | (simp; omega))) ?_) | (with_reducible refine fro_set_of _ ?_)))))); rintro ⟨⟨_, _, _⟩, _, _, _⟩))))
    all_goals
      go_wp2_with fail
      go_meet
      refine ⟨_, _, pA1, gA1, pA2, gA2, pc1, gc1, pc2, gc2, mA, mc, rfl, rfl, rfl, ?_⟩
      refine law_close HS.out HL.out HB1.out (by omega) HA.out hhP.out hhM.out hhT.out hop hog hpc1 hgc1 hom htp htg hpc2 hgc2 ?os ?tp ?ou ?z ?f ?k1 ?k2 ?s1 ?s2
      case os => simp only [setCell_os, alloc_os]
      case tp => simp only [setCell_tape, alloc_tape]
      case ou => simp only [setCell_output, alloc_output]
      case z => (try simp only [setCell_size, World.size_alloc]) <;> omega
      case f => intro i hi h1 h2; repeat (first | (with_reducible rfl) | ((with_reducible refine Eq.trans (set_heap _ ?_) ?_); (· first | exact h1 | exact h2 | (dsimp only; omega))) | ((with_reducible refine Eq.trans (Below.heap_alloc _ _ _ ?_) ?_); (· first | omega | (simp; omega))))
      case k1 => (try simp only [World.size_alloc, World.size_drew]) <;> omega
      case k2 => (try simp only [World.size_alloc, World.size_drew]) <;> omega
      case s1 => exact (by (repeat' refine And.intro ?_ ?_) <;> (repeat (first | (with_reducible assumption) | (with_reducible refine cell_set_is ?_) | (with_reducible refine has_set ?_) | (with_reducible exact has_of (by with_reducible assumption)) | ((with_reducible refine has_new ?_ ?_) <;> (first | (with_reducible rfl) | (simp; done))) | (with_reducible refine has_alloc ?_) | (with_reducible refine cell_set_off (by decide) ?_) | (with_reducible refine cell_drew_of ?_) | (with_reducible refine cell_below_of (by with_reducible assumption) ?_) | ((with_reducible refine cell_new_of ?_ ?_) <;> (first | (with_reducible rfl) | (simp; done))) | (with_reducible refine cell_alloc_of _ ?_) | (with_reducible refine cell_set_of _ (by (first | exact Nat.le_refl _ | omega | (dsimp only; omega) | (simp only [World.size_alloc, World.size_drew, World.heap_drewN]; omega) | (simp; omega))) ?_))))
      case s2 => exact (by (repeat' refine And.intro ?_ ?_) <;> (repeat (first | (with_reducible assumption) | (with_reducible refine cell_set_is ?_) | (with_reducible refine has_set ?_) | (with_reducible exact has_of (by with_reducible assumption)) | ((with_reducible refine has_new ?_ ?_) <;> (first | (with_reducible rfl) | (simp; done))) | (with_reducible refine has_alloc ?_) | (with_reducible refine cell_set_off (by decide) ?_) | (with_reducible refine cell_drew_of ?_) | (with_reducible refine cell_below_of (by with_reducible assumption) ?_) | ((with_reducible refine cell_new_of ?_ ?_) <;> (first | (with_reducible rfl) | (simp; done))) | (with_reducible refine cell_alloc_of _ ?_) | (with_reducible refine cell_set_of _ (by (first | exact Nat.le_refl _ | omega | (dsimp only; omega) | (simp only [World.size_alloc, World.size_drew, World.heap_drewN]; omega) | (simp; omega))) ?_))))
  case rest =>
    obtain ⟨b1, b2, pA1, gA1, pA2, gA2, pc1, gc1, pc2, gc2, mA, mc, rfl, rfl, rfl, HQ, HL0, HL1, HB2⟩ := hcut
    clear a0 a1 a2
    have hq := HQ.out
    obtain ⟨o0, o1, o2⟩ := hq.s1
    clear hq
    go_wp2_with fail
    refine (Kept_any st _ pA1 gA1 pc1 gc1 mA ln mc X opened found _ HQ.out.r1 HL1.out (by omega)).mono ?_
    rintro e w3 ⟨rfl, hb⟩
    have HQ3 := Lib.hid (HQ.out.later hb)
    have HL03 := Lib.hid (HL0.out.later hb)
    have HL13 := Lib.hid (HL1.out.later hb)
    have HB3 := Lib.hid (HB2.out.trans (hb.mono HB2.out.size))
    obtain ⟨t0, t1, t2⟩ := HQ3.out.s2
    clear hb o0 o1 o2 HQ HL0 HL1 HB2
    go_wp2_with fail
    refine (rKept_any st _ pA2 gA2 pc2 gc2 lA ln lc X opened found _ HQ3.out.r2 HL03.out (by omega)).mono ?_
    rintro e w4 ⟨rfl, hb⟩
    have HQ4 := Lib.hid (HQ3.out.later hb)
    have HL04 := Lib.hid (HL03.out.later hb)
    have HL14 := Lib.hid (HL13.out.later hb)
    have HB4 := Lib.hid (HB3.out.trans (hb.mono HB3.out.size))
    obtain ⟨o0, o1, o2⟩ := HQ4.out.s1
    clear hb t0 t1 t2 HQ3 HL03 HL13 HB3
    generalize st.keptR ln X opened found = kr
    have hk1 : (kr.1 != kr.1) = false := by simp
    have hk2 : (kr.2 != kr.2) = false := by simp
    go_wp2_with fail
    refine (Left_any st _ pA1 gA1 pc1 gc1 mA ln mc X opened found _ HQ4.out.r1 HL14.out (by omega)).mono ?_
    rintro e w5 ⟨rfl, hb⟩
    have HQ5 := Lib.hid (HQ4.out.later hb)
    have HL05 := Lib.hid (HL04.out.later hb)
    have HL15 := Lib.hid (HL14.out.later hb)
    have HB5 := Lib.hid (HB4.out.trans (hb.mono HB4.out.size))
    clear hb o0 o1 o2 HQ4 HL04 HL14 HB4
    obtain ⟨lr, hlr⟩ : ∃ lr, st.leftR ln X opened found = lr := ⟨_, rfl⟩
    have HLR := Lib.hid hlr
    rw [hlr]
    clear hlr
    obtain ⟨t0, t1, t2⟩ := HQ5.out.s2
    go_wp2_with fail
    have HF5 := Lib.hid (show N2At (w5.alloc (.cells #[.int .i64 lr.1, .int .i64 lr.2.1] 50)) w5.heap.size lr.1 lr.2.1 from (by (repeat' refine And.intro ?_ ?_) <;> (repeat (first | (with_reducible assumption) | (simp; done) | (with_reducible refine cell_drew_of ?_) | (with_reducible refine cell_drewN_of ?_) | (with_reducible refine cell_below_of (by with_reducible assumption) ?_) | ((with_reducible refine cell_new_of ?_ ?_) <;> (first | (with_reducible rfl) | (simp; done))) | ((with_reducible refine fro_new_of ?_) <;> (first | (with_reducible rfl) | (simp; done))) | (with_reducible refine cell_alloc_of _ ?_) | (with_reducible refine cell_set_of _ (by (first | exact Nat.le_refl _ | omega | (simp; done) | (simp; omega))) ?_) | (with_reducible refine fro_drew_of ?_) | (with_reducible refine fro_drewN_of ?_) | (with_reducible refine fro_below_of (by with_reducible assumption) (by (first | exact Nat.le_refl _ | omega | (simp; done) | (simp; omega))) ?_) | (with_reducible refine fro_alloc_of _ (by (first | exact Nat.le_refl _ | omega | (simp; done) | (simp; omega))) ?_) | (with_reducible refine fro_set_of _ ?_)))))
    have hba : Below w5.heap.size w5 (w5.alloc (.cells #[.int .i64 lr.1, .int .i64 lr.2.1] 50)) := (by repeat (first | (with_reducible exact Below.refl _ _) | (with_reducible refine Below.drew ?_) | (with_reducible refine below_drewN ?_ _) | ((with_reducible refine below_alloc ?_ ?_ _); · (first | exact Nat.le_refl _ | omega | (simp; done) | (simp; omega) | (simp at *; omega))) | ((with_reducible refine below_set ?_ ?_ _); · (first | exact Nat.le_refl _ | omega | (simp; done) | (simp; omega) | (simp at *; omega))) | ((with_reducible refine below_via (by with_reducible assumption) ?_ ?_); · (first | exact Nat.le_refl _ | omega | (simp; done) | (simp; omega) | (simp at *; omega)))))
    refine (rLeft_any st _ pA2 gA2 pc2 gc2 lA ln lc X opened found _ (HQ5.out.later hba).r2 (HL05.out.later hba) (by omega)).mono ?_
    rintro e w6 ⟨rfl, hb⟩
    rw [HLR.out]
    have hl1 : (lr.1 != lr.1) = false := by simp
    have hl2 : (lr.2.1 != lr.2.1) = false := by simp
    have hl3 : (lr.2.2 != lr.2.2) = false := by simp
    have HQ6 := Lib.hid ((HQ5.out.later hba).later hb)
    have HL06 := Lib.hid ((HL05.out.later hba).later hb)
    have HL16 := Lib.hid ((HL15.out.later hba).later hb)
    have HB6 := Lib.hid ((HB5.out.trans (hba.mono HB5.out.size)).trans (hb.mono (HB5.out.trans (hba.mono HB5.out.size)).size))
    have HF6 := Lib.hid (HF5.out.later hb)
    have hs6 : w5.heap.size < w6.heap.size := by have := hb.size; simp at this; omega
    clear hb hba t0 t1 t2 HQ5 HL05 HL15 HB5 HF5
    obtain ⟨⟨x0, x1⟩, _⟩ := HF6.out
    obtain ⟨o0, o1, o2⟩ := HQ6.out.s1
    go_wp2_with fail
    have hba : Below w6.heap.size w6 (w6.alloc (.cells #[.int .i64 lr.1, .int .i64 lr.2.1] 50)) := (by repeat (first | (with_reducible exact Below.refl _ _) | (with_reducible refine Below.drew ?_) | (with_reducible refine below_drewN ?_ _) | ((with_reducible refine below_alloc ?_ ?_ _); · (first | exact Nat.le_refl _ | omega | (simp; done) | (simp; omega) | (simp at *; omega))) | ((with_reducible refine below_set ?_ ?_ _); · (first | exact Nat.le_refl _ | omega | (simp; done) | (simp; omega) | (simp at *; omega))) | ((with_reducible refine below_via (by with_reducible assumption) ?_ ?_); · (first | exact Nat.le_refl _ | omega | (simp; done) | (simp; omega) | (simp at *; omega)))))
    refine (Tells_any st _ pA1 gA1 pc1 gc1 mA ln mc X opened found _ (HQ6.out.later hba).r1 (HL16.out.later hba) (by omega)).mono ?_
    rintro e w7 ⟨hb, hp⟩
    have HQ7 := Lib.hid ((HQ6.out.later hba).later hb)
    have HL07 := Lib.hid ((HL06.out.later hba).later hb)
    have HL17 := Lib.hid ((HL16.out.later hba).later hb)
    have HB7 := Lib.hid ((HB6.out.trans (hba.mono HB6.out.size)).trans (hb.mono (HB6.out.trans (hba.mono HB6.out.size)).size))
    clear hb hba x0 x1 o0 o1 o2 HQ6 HL06 HL16 HB6 HF6
    have hpr : ∃ (m : Nat) (TA : Option Addr) (TC : Nat) (T : Nat → Int × Int), e = .returned (.tuple #[.slice TA m TC, .int .i64 (st.sampErr ln X opened found)]) ∧ SpRow w7 w7.heap.size TA m T ∧ m ≤ 1000 ∧ (st.sampErr ln X opened found = 0 → m = st.n ∧ T = st.told (bagOf X ln) (st.leftLo (bagOf X ln) found) (st.leftHi (bagOf X ln) opened found)) ∧ (st.sampErr ln X opened found ≠ 0 → m = 0) := by
      rcases hp with ⟨h0, TA, TC, h, hr, hc⟩ | ⟨h0, h⟩
      · exact ⟨st.n, TA, TC, _, by rw [h, h0], hr, by omega, fun _ => ⟨rfl, rfl⟩, fun h => absurd h0 h⟩
      · exact ⟨0, none, 0, fun _ => (0, 0), h, fun k hk => absurd hk (by omega), by omega, fun h => absurd h h0, fun _ => rfl⟩
    obtain ⟨m, TA, TC, T, rfl, hr, hm1, hmt, hmn⟩ := hpr
    have HR7 := Lib.hid hr
    have HMT := Lib.hid hmt
    have HMN := Lib.hid hmn
    clear hp hr hmt hmn
    obtain ⟨se, hse⟩ : ∃ se, st.sampErr ln X opened found = se := ⟨_, rfl⟩
    have HSE := Lib.hid hse
    rw [hse] at HMT HMN ⊢
    clear hse
    obtain ⟨t0, t1, t2⟩ := HQ7.out.s2
    go_wp2_with fail
    refine (rTells_any st _ pA2 gA2 pc2 gc2 lA ln lc X opened found _ HQ7.out.r2 HL07.out (by omega)).mono ?_
    rintro e w8 ⟨hb, hp⟩
    have HQ8 := Lib.hid (HQ7.out.later hb)
    have HL08 := Lib.hid (HL07.out.later hb)
    have HL18 := Lib.hid (HL17.out.later hb)
    have HB8 := Lib.hid (HB7.out.trans (hb.mono HB7.out.size))
    have HR8 := Lib.hid (HR7.out.later hb)
    clear hb t0 t1 t2 HQ7 HL07 HL17 HB7 HR7
    have hpr : ∃ (UA : Option Addr) (UC : Nat), e = .returned (.tuple #[.slice UA m UC, .int .i64 se]) ∧ SpRow w8 w8.heap.size UA m T := by
      rcases hp with ⟨h0, UA, UC, h, hr, hc⟩ | ⟨h0, h⟩
      · rw [HSE.out] at h0
        obtain ⟨rfl, rfl⟩ := HMT.out h0
        exact ⟨UA, UC, by rw [h, h0], hr⟩
      · rw [HSE.out] at h0 h
        obtain rfl := HMN.out h0
        exact ⟨none, 0, h, fun k hk => absurd hk (by omega)⟩
    obtain ⟨UA, UC, rfl, hr⟩ := hpr
    have HU8 := Lib.hid hr
    clear hp hr
    have hse1 : (se == se) = true := by simp
    go_wp2_with fail
    refine (alike_sp TA UA m m TC UC T T _ HR8.out HU8.out (by omega)).mono ?_
    rintro e w9 ⟨rfl, hb⟩
    rw [alln_sp, decide_eq_true rfl]
    have HQ9 := Lib.hid (HQ8.out.later hb)
    have HL09 := Lib.hid (HL08.out.later hb)
    have HL19 := Lib.hid (HL18.out.later hb)
    have HB9 := Lib.hid (HB8.out.trans (hb.mono HB8.out.size))
    clear hb HQ8 HL08 HL18 HB8 HR8 HU8
    obtain ⟨o0, o1, o2⟩ := HQ9.out.s1
    obtain ⟨t0, t1, t2⟩ := HQ9.out.s0
    go_wp2_with fail
    refine (same_any st _ _ pA1 gA1 pA gA pc1 gc1 pc gc _ HQ9.out.r1 HQ9.out.r0).mono ?_
    rintro e w10 ⟨rfl, hb⟩
    have HL0a := Lib.hid (HL09.out.later hb)
    have HL1a := Lib.hid (HL19.out.later hb)
    have HBa := Lib.hid (HB9.out.trans (hb.mono HB9.out.size))
    clear hb o0 o1 o2 t0 t1 t2 HQ9 HL09 HL19 HB9
    go_wp2_with fail
    refine (alike_int mA lA ln ln mc lc X X _ HL1a.out HL0a.out (by omega)).mono ?_
    rintro e w11 ⟨rfl, hb⟩
    rw [alln_int, decide_eq_true rfl]
    have HBb := Lib.hid (HBa.out.trans (hb.mono HBa.out.size))
    clear hb
    go_wp2_with fail
    refine (awake_any _).mono ?_
    rintro e w12 ⟨rfl, hb⟩
    have HBc := Lib.hid (HBb.out.trans (hb.mono HBb.out.size))
    clear hb
    go_wp2_with fail
    go_ret
    exact ⟨rfl, HBc.out⟩

set_option maxRecDepth 100000 in
set_option maxHeartbeats 1000000 in
theorem buyers_long (st : St) (pA gA : Option Addr) (pc gc : Nat) (lA : Option Addr) (ln lc : Nat) (opened found : Int) (W : World) (h : 6 < st.n ∨ 6 < st.m ∨ 8 < ln) :
    Calls Try.prog 4 #[stV pA st.n pc gA st.m gc st.lots, .slice lA ln lc, .int .i64 opened, .int .i64 found] W fun e W' => e = .returned (.bool true) ∧ Below W.heap.size W W' := by
  by_cases h1 : (decide (6 < st.n) || decide (6 < st.m)) = true
  · go_enter Try.func4, Try.ntmps4
    go_wp2_with fail
    refine (long_any pA gA st.n pc st.m gc st.lots _).mono ?_
    rintro e w1 ⟨rfl, hb1⟩
    rw [h1]
    have HB1 := Lib.hid (show Below W.heap.size W w1 from (by repeat (first | (with_reducible exact Below.refl _ _) | (with_reducible refine Below.drew ?_) | (with_reducible refine below_drewN ?_ _) | ((with_reducible refine below_alloc ?_ ?_ _); · (first | exact Nat.le_refl _ | omega | (simp; done) | (simp; omega) | (simp at *; omega))) | ((with_reducible refine below_set ?_ ?_ _); · (first | exact Nat.le_refl _ | omega | (simp; done) | (simp; omega) | (simp at *; omega))) | ((with_reducible refine below_via (by with_reducible assumption) ?_ ?_); · (first | exact Nat.le_refl _ | omega | (simp; done) | (simp; omega) | (simp at *; omega))))))
    have hs1 := HB1.out.size
    clear hb1
    go_wp2_with fail
    refine (awake_any _).mono ?_
    rintro e w2 ⟨rfl, hb2⟩
    have HB2 := Lib.hid (HB1.out.trans (hb2.mono hs1))
    clear hb2
    go_wp2_with fail
    go_ret
    exact ⟨rfl, HB2.out⟩
  · have h2 : (8 : Int) < (ln : Int) := by simp at h1; omega
    have h1' : (decide (6 < st.n) || decide (6 < st.m)) = false := by simpa using h1
    clear h1 h
    go_enter Try.func4, Try.ntmps4
    go_wp2_with fail
    refine (long_any pA gA st.n pc st.m gc st.lots _).mono ?_
    rintro e w1 ⟨rfl, hb1⟩
    rw [h1']
    have HB1 := Lib.hid (show Below W.heap.size W w1 from (by repeat (first | (with_reducible exact Below.refl _ _) | (with_reducible refine Below.drew ?_) | (with_reducible refine below_drewN ?_ _) | ((with_reducible refine below_alloc ?_ ?_ _); · (first | exact Nat.le_refl _ | omega | (simp; done) | (simp; omega) | (simp at *; omega))) | ((with_reducible refine below_set ?_ ?_ _); · (first | exact Nat.le_refl _ | omega | (simp; done) | (simp; omega) | (simp at *; omega))) | ((with_reducible refine below_via (by with_reducible assumption) ?_ ?_); · (first | exact Nat.le_refl _ | omega | (simp; done) | (simp; omega) | (simp at *; omega))))))
    have hs1 := HB1.out.size
    clear hb1
    go_wp2_with fail
    refine (awake_any _).mono ?_
    rintro e w2 ⟨rfl, hb2⟩
    have HB2 := Lib.hid (HB1.out.trans (hb2.mono hs1))
    clear hb2
    go_wp2_with fail
    go_ret
    exact ⟨rfl, HB2.out⟩
theorem buyers_any (st : St) (pA gA : Option Addr) (pc gc : Nat) (lA : Option Addr) (ln lc : Nat) (X : Nat → Int) (opened found : Int) (W : World) (hp : PkRow W W.heap.size pA st.n st.P) (hg : GdRow W W.heap.size gA st.m st.G) (hl : IntRow W W.heap.size lA ln X) (hpc : st.n ≤ pc) (hgc : st.m ≤ gc) :
    Calls Try.prog 4 #[stV pA st.n pc gA st.m gc st.lots, .slice lA ln lc, .int .i64 opened, .int .i64 found] W fun e W' => e = .returned (.bool true) ∧ Below W.heap.size W W' := by
  by_cases h : 6 < st.n ∨ 6 < st.m ∨ 8 < ln
  · exact buyers_long st pA gA pc gc lA ln lc opened found W h
  · exact buyers_in st W.heap.size pA gA pc gc lA ln lc X opened found W ⟨Nat.le_refl _, hp, hg, by omega, by omega, hpc, hgc⟩ hl (by omega) (by omega) (by omega)
end Go.Proofs.Ytegmomappbehcaa
