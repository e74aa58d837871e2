/- belt.Wrong of a right belt. -/
import Derived.Test.YtmbkngfcbgbeiaaGreatEj
import Derived.Deep.RegionHeldLaw
set_option linter.unusedSimpArgs false
set_option linter.unusedVariables false
namespace Go.Proofs.YtmbkngfcbgbeiaaGreat
open Go.RowKit Go.Shelf

set_option maxRecDepth 100000 in
set_option maxHeartbeats 0 in
/-- how many pieces of each hand are wrong at most -/
theorem Wrong_any (nt nh : Nat) (T : Nat → Nat → Int) (G : Nat → HndA) (hok : BeltOk nt nh T G) (tA hA : Option Addr) (tc hc : Nat) (W : World) (hr : BeltRow W W.heap.size tA nt T hA nh G) :
    Calls Tryz.prog 14 #[beV tA nt tc hA nh hc] W fun e W' => ∃ A c, e = .returned (.tuple #[.slice A nh c, .int .i64 0]) ∧ OwnInt W' W.heap.size A nh (fun k => wrongN (sumN (heapsAt (gh G) nh T nt k) 5) (G k).h.sl) ∧ nh ≤ c ∧ Below W.heap.size W W' := by
  have HO := Lib.hid hok
  have h5 := hok.h5
  have h8 := hok.t8
  have HR := Lib.hid hr
  clear hok hr
  obtain ⟨i0, hi, hz0, hz1, hz2⟩ := info_parts infoInt
  go_enter Tryz.func14, Tryz.ntmps14
  go_wp2_with fail
  have hba : Below W.heap.size W (W.alloc (.cells #[.slice tA nt tc, .slice hA nh hc] 26)) := (by repeat (first | (with_reducible exact Below.refl _ _) | (with_reducible refine Below.drew ?_) | (with_reducible refine below_drewN ?_ _) | ((with_reducible refine below_alloc ?_ ?_ _); · (first | exact Nat.le_refl _ | omega | (simp; done) | (simp; omega) | (simp at *; omega))) | ((with_reducible refine below_set ?_ ?_ _); · (first | exact Nat.le_refl _ | omega | (simp; done) | (simp; omega) | (simp at *; omega))) | ((with_reducible refine below_via (by with_reducible assumption) ?_ ?_); · (first | exact Nat.le_refl _ | omega | (simp; done) | (simp; omega) | (simp at *; omega)))))
  refine (Heaps_any nt nh T G HO.out tA hA tc hc _ (HR.out.later hba).up).mono ?_
  rintro e w1 ⟨b, rfl, hb, ho, hb1⟩
  rw [World.size_alloc] at hb
  have q1 := cell_below_of hb1 (show (W.alloc (.cells #[.slice tA nt tc, .slice hA nh hc] 26)).cell? ⟨W.heap.size, 1, none⟩ = some (.slice hA nh hc) from (by (repeat' refine And.intro ?_ ?_) <;> (repeat (first | (with_reducible assumption) | (simp; done) | (with_reducible refine cell_drew_of ?_) | (with_reducible refine cell_drewN_of ?_) | (with_reducible refine cell_below_of (by with_reducible assumption) ?_) | ((with_reducible refine cell_new_of ?_ ?_) <;> (first | (with_reducible rfl) | (simp; done))) | ((with_reducible refine fro_new_of ?_) <;> (first | (with_reducible rfl) | (simp; done))) | (with_reducible refine cell_alloc_of _ ?_) | (with_reducible refine cell_set_of _ (by (first | exact Nat.le_refl _ | omega | (simp; done) | (simp; omega))) ?_) | (with_reducible refine fro_drew_of ?_) | (with_reducible refine fro_drewN_of ?_) | (with_reducible refine fro_below_of (by with_reducible assumption) (by (first | exact Nat.le_refl _ | omega | (simp; done) | (simp; omega))) ?_) | (with_reducible refine fro_alloc_of _ (by (first | exact Nat.le_refl _ | omega | (simp; done) | (simp; omega))) ?_) | (with_reducible refine fro_set_of _ ?_)))))
  have hz1' := hb1.size
  rw [World.size_alloc] at hz1'
  have HB1 := Lib.hid (hba.trans (hb1.mono (by simp)))
  have HH := Lib.hid ho
  have HQ1 := Lib.hid q1
  have HBD : Hid (∀ k q, q < 5 → 0 ≤ heapsAt (gh G) nh T nt k q ∧ heapsAt (gh G) nh T nt k q ≤ 480) := Lib.hid (fun k q hq => by
    have := heapsAt_bd (G := gh G) (nh := nh) (T := T) HO.out.h HO.out.t nt k q hq
    omega)
  clear hba hb1 ho q1
  go_wp2_with fail
  go_loopw [6, 19] (fun v i wr => ∃ k : Nat, k ≤ nh ∧ i = .int .i64 k ∧ Hid (wr.ownsRow w1.heap.size 3 1 v k (numCells (fun k => wrongN (sumN (heapsAt (gh G) nh T nt k) 5) (G k).h.sl) k)) ∧ Hid (Below w1.heap.size w1 wr)) (fun _ i _ => nh - (intOf i).toNat)
  case atStart => exact ⟨0, Nat.zero_le _, rfl, Lib.hid (World.ownsRow_nil _ _ _ _), Lib.hid (Below.refl _ _)⟩
  case round =>
    obtain ⟨k, hk, rfl, hown, HBr⟩ := hrel
    have hsw := HBr.out.size
    by_cases hlt : k < nh
    · have hki : (k : Int) < (nh : Int) := by omega
      have ek : IntKind.i64.wrap ((k : Int) + 1) = (k : Int) + 1 := IntWalk.i64_in _ (by omega)
      have hv1 := hown.out.lt
      have HBW := Lib.hid (HB1.out.trans (HBr.out.mono (show W.heap.size ≤ w1.heap.size by omega)))
      obtain ⟨hbb, hoo, rfl, hhb, -, -, -, -, -, -, -, r7, -⟩ := (HR.out.h.below HBW.out) k hlt
      have q1 := cell_below_of HBr.out HQ1.out
      have d0 := cell_below_of HBr.out (HH.out k hlt 0 (by omega)).1
      have d1 := cell_below_of HBr.out (HH.out k hlt 1 (by omega)).1
      have d2 := cell_below_of HBr.out (HH.out k hlt 2 (by omega)).1
      have d3 := cell_below_of HBr.out (HH.out k hlt 3 (by omega)).1
      have d4 := cell_below_of HBr.out (HH.out k hlt 4 (by omega)).1
      rw [Nat.add_zero] at d0
      have hbl := World.block_lt_of_cell? wr _ d0
      obtain ⟨X, eX⟩ : ∃ X, X = heapsAt (gh G) nh T nt k := ⟨_, rfl⟩
      have hX : ∀ q, q < 5 → 0 ≤ X q ∧ X q ≤ 480 := fun q hq => by rw [eX]; exact HBD.out k q hq
      have HX := Lib.hid hX
      have hS := sumN_bd2 X 5 480 hX
      rw [← eX] at d0 d1 d2 d3 d4
      have EX := Lib.hid eX
      clear eX hX
      obtain ⟨S, eS⟩ : ∃ S, S = sumN X 5 := ⟨_, rfl⟩
      rw [← eS] at hS
      have ES := Lib.hid eS
      clear eS
      have hsl := (HO.out.h k).2.2
      have hP1 : 0 ≤ S * (G k).h.sl := Int.mul_nonneg hS.1 hsl.1
      have hP2 := Int.mul_le_mul_of_nonneg_left hsl.2 hS.1
      have e1 : IntKind.i64.wrap (S * (G k).h.sl) = S * (G k).h.sl := IntWalk.i64_in _ (by omega)
      have e2 : IntKind.i64.wrap (S * (G k).h.sl + 99) = S * (G k).h.sl + 99 := IntWalk.i64_in _ (by omega)
      have hwb := wrong_bd hS.1 hsl
      have e3 : IntKind.i64.wrap ((S * (G k).h.sl + 99).tdiv 100) = wrongN S (G k).h.sl := by
        rw [Int.tdiv_eq_ediv_of_nonneg (by omega)]
        exact IntWalk.i64_in _ (by unfold wrongN at hwb; omega)
      clear hwb
      have HI5 : Hid (IntRow (wr.alloc (.cells #[.int .i64 (X 0), .int .i64 (X 1), .int .i64 (X 2), .int .i64 (X 3), .int .i64 (X 4)] 60)) (wr.heap.size + 1) (some ⟨wr.heap.size, 0, none⟩) 5 X) := Lib.hid (fun q hq => by
        have h5' : q = 0 ∨ q = 1 ∨ q = 2 ∨ q = 3 ∨ q = 4 := by omega
        rcases h5' with rfl | rfl | rfl | rfl | rfl <;> exact ⟨wr.heap.size, 0, rfl, by omega, by simp⟩)
      go_upto_region 8 with fail
      go_region_held_law (fun w' => w'.cell? ⟨W.heap.size, 1, none⟩ = some (.slice (some ⟨hbb, hoo, none⟩) nh hc) ∧ w'.cell? ⟨hbb, hoo + k * 9 + 7, none⟩ = some (.int .i64 (G k).h.sl)) (first | (go_split_ands; (refine ⟨?_, ?_⟩ <;> (refine (hgr6.cell_far _ ?_ ?_).trans ?_; (· (first | omega | (simp only [World.size_alloc, World.size_drew]; omega) | (simp; done) | (simp; omega))); (· (intro e; have := hv1 _ e.symm; (try dsimp only at this); omega)); (· (repeat (first | (with_reducible assumption) | (simp; done) | (with_reducible refine cell_drew_of ?_) | (with_reducible refine cell_drewN_of ?_) | (with_reducible refine cell_below_of (by with_reducible assumption) ?_) | ((with_reducible refine cell_new_of ?_ ?_) <;> (first | (with_reducible rfl) | (simp; done))) | ((with_reducible refine fro_new_of ?_) <;> (first | (with_reducible rfl) | (simp; done))) | (with_reducible refine cell_alloc_of _ ?_) | (with_reducible refine cell_set_of _ (by (first | exact Nat.le_refl _ | omega | (simp; done) | (simp; omega))) ?_) | (with_reducible refine fro_drew_of ?_) | (with_reducible refine fro_drewN_of ?_) | (with_reducible refine fro_below_of (by with_reducible assumption) (by (first | exact Nat.le_refl _ | omega | (simp; done) | (simp; omega))) ?_) | (with_reducible refine fro_alloc_of _ (by (first | exact Nat.le_refl _ | omega | (simp; done) | (simp; omega))) ?_) | (with_reducible refine fro_set_of _ ?_)))))); done) | ((go_split_ands; (repeat' refine And.intro ?_ ?_) <;> (repeat (first | (with_reducible assumption) | (simp; done) | (with_reducible refine cell_drew_of ?_) | (with_reducible refine cell_drewN_of ?_) | (with_reducible refine cell_below_of (by with_reducible assumption) ?_) | ((with_reducible refine cell_new_of ?_ ?_) <;> (first | (with_reducible rfl) | (simp; done))) | ((with_reducible refine fro_new_of ?_) <;> (first | (with_reducible rfl) | (simp; done))) | (with_reducible refine cell_alloc_of _ ?_) | (with_reducible refine cell_set_of _ (by (first | exact Nat.le_refl _ | omega | (simp; done) | (simp; omega))) ?_) | (with_reducible refine fro_drew_of ?_) | (with_reducible refine fro_drewN_of ?_) | (with_reducible refine fro_below_of (by with_reducible assumption) (by (first | exact Nat.le_refl _ | omega | (simp; done) | (simp; omega))) ?_) | (with_reducible refine fro_alloc_of _ (by (first | exact Nat.le_refl _ | omega | (simp; done) | (simp; omega))) ?_) | (with_reducible refine fro_set_of _ ?_)))))) (first | (go_at_call 34; refine (add_any (some ⟨wr.heap.size, 0, none⟩) 5 5 X _ ((HI5.out.below (by repeat (first | (with_reducible exact Below.refl _ _) | (with_reducible assumption) | (with_reducible refine Below.drew ?_) | ((with_reducible refine below_alloc ?_ ?_ _); (· (first | exact Nat.le_refl _ | omega | (dsimp only; omega) | (simp only [World.size_alloc, World.size_drew, World.heap_drewN]; omega) | (simp; omega)))) | ((with_reducible refine below_set ?_ ?_ _); (· (first | exact Nat.le_refl _ | omega | (dsimp only; omega) | (simp only [World.size_alloc, World.size_drew, World.heap_drewN]; omega) | (simp; omega)))) | ((with_reducible refine below_via (by with_reducible assumption) ?_ ?_); (· (first | exact Nat.le_refl _ | omega | (dsimp only; omega) | (simp only [World.size_alloc, World.size_drew, World.heap_drewN]; omega) | (simp; omega))))))).mono (by (first | exact Nat.le_refl _ | omega | (simp; done) | (simp; omega)))) (by omega) (fun q hq => by have := HX.out q hq; omega)).mono ?_; rintro e w3 ⟨he, hb3⟩; rw [← ES.out] at he; subst he; obtain ⟨hc3, hf3⟩ := bcell hb3; have hz3 := hb3.size; (try simp only [World.size_drew, World.heap_drewN, World.size_alloc] at hz3); clear hc3 hf3) | (refine step_append_lies _ (by rfl) (.tmp 24) (.tmp 36) 38 (by rfl) w1.heap.size 3 i0 (.int .i64 0) 1 8 ints_under hi hz0 hz1 hz2 (by rfl) (by decide) u6 k (numCells (fun k => wrongN (sumN (heapsAt (gh G) nh T nt k) 5) (G k).h.sl) k) (by rfl) (owns_later hown.out (show Below wr.heap.size wr _ from (by repeat (first | (with_reducible exact Below.refl _ _) | (with_reducible assumption) | (with_reducible refine Below.drew ?_) | ((with_reducible refine below_alloc ?_ ?_ _); (· (first | exact Nat.le_refl _ | omega | (dsimp only; omega) | (simp only [World.size_alloc, World.size_drew, World.heap_drewN]; omega) | (simp; omega)))) | ((with_reducible refine below_set ?_ ?_ _); (· (first | exact Nat.le_refl _ | omega | (dsimp only; omega) | (simp only [World.size_alloc, World.size_drew, World.heap_drewN]; omega) | (simp; omega)))) | ((with_reducible refine below_via (by with_reducible assumption) ?_ ?_); (· (first | exact Nat.le_refl _ | omega | (dsimp only; omega) | (simp only [World.size_alloc, World.size_drew, World.heap_drewN]; omega) | (simp; omega)))))))) ⟨w3.heap.size, 0, none⟩ 1 1 [.int .i64 (wrongN S (G k).h.sl)] (by rfl) rfl (fun jj uu hjj => new_cells (w := w3) (t := 3) (cs := [.int .i64 (wrongN S (G k).h.sl)]) jj uu hjj) (by intro u hu; simp only [List.mem_cons, List.not_mem_nil, or_false] at hu; subst hu; rfl) (by omega) (by unfold maxLen; omega) (by omega) (by (first | omega | (simp only [World.size_alloc, World.size_drew]; omega) | (simp; done) | (simp; omega))) (w3.heap.size + 1) (by simp) ?_; intro g cap w6 hown6 hgr6 hat6 hlt6) | fail)
      all_goals
        have HO6 : Hid (w6.ownsRow w1.heap.size 3 1 (.slice (some ⟨g, 0, none⟩) (k + 1) cap) (k + 1) (numCells (fun k => wrongN (sumN (heapsAt (gh G) nh T nt k) 5) (G k).h.sl) (k + 1))) := Lib.hid (by
          rw [numCells_succ]
          show w6.ownsRow _ _ _ _ _ (_ ++ [.int .i64 (wrongN (sumN (heapsAt (gh G) nh T nt k) 5) (G k).h.sl)])
          rw [← EX.out, ← ES.out]
          exact hown6)
        have HB6 : Hid (Below w1.heap.size w1 w6) := Lib.hid (HBr.out.trans (Below.grown ((show Below wr.heap.size wr _ from (by repeat (first | (with_reducible exact Below.refl _ _) | (with_reducible assumption) | (with_reducible refine Below.drew ?_) | ((with_reducible refine below_alloc ?_ ?_ _); (· (first | exact Nat.le_refl _ | omega | (dsimp only; omega) | (simp only [World.size_alloc, World.size_drew, World.heap_drewN]; omega) | (simp; omega)))) | ((with_reducible refine below_set ?_ ?_ _); (· (first | exact Nat.le_refl _ | omega | (dsimp only; omega) | (simp only [World.size_alloc, World.size_drew, World.heap_drewN]; omega) | (simp; omega)))) | ((with_reducible refine below_via (by with_reducible assumption) ?_ ?_); (· (first | exact Nat.le_refl _ | omega | (dsimp only; omega) | (simp only [World.size_alloc, World.size_drew, World.heap_drewN]; omega) | (simp; omega))))))).mono hsw) hgr6 (by simp; omega) (fun k hk => (hv1 k hk).1)))
        clear hown6 hgr6 hat6 hlt6
        go_wp2_with fail
        go_roundw
        case rel => exact ⟨k + 1, by omega, by go_num, HO6, HB6⟩
        case measure => simp [intOf]; omega
    · obtain rfl : k = nh := by omega
      have hge : ¬ (k : Int) < (k : Int) := by omega
      obtain ⟨A, c, rfl, hr, hcl⟩ := ownInt_of hown.out
      have HRR := Lib.hid hr
      clear hr
      go_wp2_with fail
      go_ret2
      exact ⟨A, c, rfl, fun j hj => by
        obtain ⟨b', e, l, r⟩ := HRR.out j hj
        exact ⟨b', e, by omega, r⟩, hcl, HB1.out.trans (HBr.out.mono (by omega))⟩
end Go.Proofs.YtmbkngfcbgbeiaaGreat
