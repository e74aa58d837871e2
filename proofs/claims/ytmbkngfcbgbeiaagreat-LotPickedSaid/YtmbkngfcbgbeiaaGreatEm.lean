/- laystalllaw05.Piled: a tray drawn from a chute. -/
import Derived.Test.YtmbkngfcbgbeiaaGreatEl
import Derived.Test.YtmbkngfcbgbeiaaGreatJa
set_option linter.unusedSimpArgs false
set_option linter.unusedVariables false
namespace Go.Proofs.YtmbkngfcbgbeiaaGreat
open Go.RowKit Go.Shelf

set_option maxRecDepth 100000 in
set_option maxHeartbeats 4000000 in
theorem Piled_any (B cb : Nat) (lA : Option Addr) (ln lc : Nat) (n : Int) (hn : 0 ≤ n ∧ n ≤ 255) (hln : ln ≤ 9223372036854775807) (W : World) (hB : B ≤ W.heap.size) (h : Chute W B cb lA ln lc) :
    Calls Tryz.prog 22 #[.pointer (some ⟨cb, 0, none⟩), .int .i64 n] W fun e W' => ∃ X : Nat → Int, e = .returned (trV X) ∧ (∀ q, q < 5 → 0 ≤ X q ∧ X q ≤ n) ∧ W.grownBy W' (some cb) ∧ Chute W' B cb lA ln lc := by
  have HC := Lib.hid h
  clear h
  have e1 : IntKind.i64.wrap (n + 1) = n + 1 := IntWalk.i64_in _ (by omega)
  go_enter Tryz.func22, Tryz.ntmps22
  go_upto_region 2 with fail
  have HA : Hid (OwnTr ((W.alloc (.cells #[.int .i64 0, .int .i64 0, .int .i64 0, .int .i64 0, .int .i64 0] 60)).alloc (.cells #[.int .i64 0, .int .i64 0, .int .i64 0, .int .i64 0, .int .i64 0] 60)) (W.heap.size + 1) 1 (fun _ _ => 0)) := Lib.hid (own_of_cells (T := fun _ _ => 0) (two_second _ _ _ _ _) (fun j hj => by
    have h5 : j = 0 ∨ j = 1 ∨ j = 2 ∨ j = 3 ∨ j = 4 := by omega
    rcases h5 with rfl | rfl | rfl | rfl | rfl <;> rfl))
  have HZ : Hid (OwnTr ((W.alloc (.cells #[.int .i64 0, .int .i64 0, .int .i64 0, .int .i64 0, .int .i64 0] 60)).alloc (.cells #[.int .i64 0, .int .i64 0, .int .i64 0, .int .i64 0, .int .i64 0] 60)) W.heap.size 1 (fun _ _ => 0)) := Lib.hid (own_of_cells (T := fun _ _ => 0) (two_first _ _ _ _ _) (fun j hj => by
    have h5 : j = 0 ∨ j = 1 ∨ j = 2 ∨ j = 3 ∨ j = 4 := by omega
    rcases h5 with rfl | rfl | rfl | rfl | rfl <;> rfl))
  have hba : Below W.heap.size W ((W.alloc (.cells #[.int .i64 0, .int .i64 0, .int .i64 0, .int .i64 0, .int .i64 0] 60)).alloc (.cells #[.int .i64 0, .int .i64 0, .int .i64 0, .int .i64 0, .int .i64 0] 60)) := (by repeat (first | (with_reducible exact Below.refl _ _) | (with_reducible assumption) | (with_reducible refine Below.drew ?_) | ((with_reducible refine below_alloc ?_ ?_ _); (· (first | exact Nat.le_refl _ | omega | (dsimp only; omega) | (simp only [World.size_alloc, World.size_drew, World.heap_drewN]; omega) | (simp; omega)))) | ((with_reducible refine below_set ?_ ?_ _); (· (first | exact Nat.le_refl _ | omega | (dsimp only; omega) | (simp only [World.size_alloc, World.size_drew, World.heap_drewN]; omega) | (simp; omega)))) | ((with_reducible refine below_via (by with_reducible assumption) ?_ ?_); (· (first | exact Nat.le_refl _ | omega | (dsimp only; omega) | (simp only [World.size_alloc, World.size_drew, World.heap_drewN]; omega) | (simp; omega))))))
  have HC1 := Lib.hid (HC.out.later hba)
  have HG1 := Lib.hid (gb_from_below (c := some cb) hba)
  have hcl : cb < W.heap.size := by
    obtain ⟨u, z, _, hc⟩ := HC.out
    exact World.block_lt_of_cell? W _ hc.c0
  clear hba
  go_wp2_with fail
  go_loopw [7] (fun i wr => ∃ (m : Nat) (X : Nat → Int), m ≤ 5 ∧ i = .int .i64 m ∧ Hid (∀ q, q < 5 → 0 ≤ X q ∧ X q ≤ n) ∧ Hid (OwnTr wr (W.heap.size + 1) 1 (fun _ => X)) ∧ Hid (OwnTr wr W.heap.size 1 (fun _ _ => 0)) ∧ Hid (Chute wr B cb lA ln lc) ∧ Hid (W.grownBy wr (some cb))) (fun i _ => 5 - (intOf i).toNat)
  case atStart => exact ⟨0, fun _ => 0, by omega, rfl, Lib.hid (fun _ _ => ⟨Int.le_refl _, hn.1⟩), HA, HZ, HC1, HG1⟩
  case round =>
    clear HA HZ HC1 HG1
    obtain ⟨m, X, hm, rfl, HX, HA, HZ, HCr, HGr⟩ := hrel
    by_cases hm5 : m < 5
    · have hmi : (m : Int) < 5 := by omega
      have em : IntKind.i64.wrap ((m : Int) + 1) = (m : Int) + 1 := IntWalk.i64_in _ (by omega)
      go_wp2_with fail
      refine (pull_any B cb lA ln lc (n + 1) (by omega) hln _ HCr.out).mono ?_
      rintro e w3 ⟨x, rfl, hx0, hx1, hg3, hc3⟩
      have ha3 := (HA.out.same (hg3.block _ (World.block_lt_of_cell? _ _ (HA.out 0 (by omega) 0 (by omega)).1) (fun e => by injection e with e; omega)))
      have hz3 := (HZ.out.same (hg3.block _ (World.block_lt_of_cell? _ _ (HZ.out 0 (by omega) 0 (by omega)).1) (fun e => by injection e with e; omega)))
      have hcm := ha3 0 (by omega) m hm5
      rw [Nat.zero_mul, Nat.zero_add] at hcm
      obtain ⟨hcm1, hcm2⟩ := hcm
      have HA3 := Lib.hid ha3
      have HZ3 := Lib.hid hz3
      have HC3 := Lib.hid hc3
      have HG3 := Lib.hid (gb_trans HGr.out hg3)
      clear ha3 hz3 hc3 hg3
      go_wp2_with fail
      have hp := HA3.out.put (k := 0) (by omega) hm5 x
      rw [Nat.zero_mul, Nat.zero_add] at hp
      have hw1 := World.block_lt_of_cell? _ _ hcm1
      dsimp only at hw1
      refine ⟨⟨m + 1, fun q => if q = m then x else X q, by omega, by go_num, Lib.hid (fun q hq => ?_), Lib.hid (fun k hk q hq => ?_), Lib.hid (HZ3.out.same (set_heap _ (show W.heap.size ≠ W.heap.size + 1 by omega))), Lib.hid (HC3.out.keep (fun i hi => set_heap _ (show i ≠ W.heap.size + 1 by omega))), Lib.hid ⟨HG3.out.os, HG3.out.tape, HG3.out.output, by have := HG3.out.size; simpa using this, fun i hi hn => (set_heap _ (show i ≠ W.heap.size + 1 by omega)).trans (HG3.out.block i hi hn)⟩⟩, ?_⟩
      · show 0 ≤ (if q = m then x else X q) ∧ (if q = m then x else X q) ≤ n
        by_cases e : q = m
        · rw [if_pos e]; omega
        · rw [if_neg e]; exact HX.out q hq
      · have h := hp k hk q hq
        obtain rfl : k = 0 := by omega
        simpa using h
      · simp [intOf]; omega
    · obtain rfl : m = 5 := by omega
      have d0 := (HA.out 0 (by omega) 0 (by omega)).1
      have d1 := (HA.out 0 (by omega) 1 (by omega)).1
      have d2 := (HA.out 0 (by omega) 2 (by omega)).1
      have d3 := (HA.out 0 (by omega) 3 (by omega)).1
      have d4 := (HA.out 0 (by omega) 4 (by omega)).1
      have f0 := HZ.out 0 (by omega) 0 (by omega)
      have f1 := HZ.out 0 (by omega) 1 (by omega)
      have f2 := HZ.out 0 (by omega) 2 (by omega)
      have f3 := HZ.out 0 (by omega) 3 (by omega)
      have f4 := HZ.out 0 (by omega) 4 (by omega)
      simp only [Nat.zero_mul, Nat.zero_add] at d0 d1 d2 d3 d4 f0 f1 f2 f3 f4
      obtain ⟨c0, f0⟩ := f0
      obtain ⟨c1, f1⟩ := f1
      obtain ⟨c2, f2⟩ := f2
      obtain ⟨c3, f3⟩ := f3
      obtain ⟨c4, f4⟩ := f4
      go_wp2_with fail
      refine bodyPost_ret (v := trV X) ?_ rfl ⟨X, rfl, HX.out, ⟨HGr.out.os, HGr.out.tape, HGr.out.output, by have := HGr.out.size; simpa using this, fun i hi hn => ?_⟩, HCr.out.keep (fun i hi => ?_)⟩
      · exact (by simp (maxDischargeDepth := 9) [results, Tryz.results22, go_sem, c0, c1, c2, c3, c4])
      · rw [set_heap _ (show i ≠ W.heap.size by omega), set_heap _ (show i ≠ W.heap.size by omega), set_heap _ (show i ≠ W.heap.size by omega), set_heap _ (show i ≠ W.heap.size by omega), set_heap _ (show i ≠ W.heap.size by omega)]
        exact HGr.out.block i hi hn
      · rw [set_heap _ (show i ≠ W.heap.size by omega), set_heap _ (show i ≠ W.heap.size by omega), set_heap _ (show i ≠ W.heap.size by omega), set_heap _ (show i ≠ W.heap.size by omega), set_heap _ (show i ≠ W.heap.size by omega)]
end Go.Proofs.YtmbkngfcbgbeiaaGreat
