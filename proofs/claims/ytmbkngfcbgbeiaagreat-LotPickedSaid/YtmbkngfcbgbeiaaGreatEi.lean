/- belt.Heaps and belt.Wrong of a right belt. -/
import Derived.Test.YtmbkngfcbgbeiaaGreatEh
set_option linter.unusedSimpArgs false
set_option linter.unusedVariables false
namespace Go.Proofs.YtmbkngfcbgbeiaaGreat
open Go.RowKit Go.Shelf

set_option maxRecDepth 100000 in
set_option maxHeartbeats 4000000 in
/-- what each hand has taken -/
theorem Heaps_any (nt nh : Nat) (T : Nat → Nat → Int) (G : Nat → HndA) (hok : BeltOk nt nh T G) (tA hA : Option Addr) (tc hc : Nat) (W : World) (hr : BeltRow W W.heap.size tA nt T hA nh G) :
    Calls Tryz.prog 13 #[beV tA nt tc hA nh hc] W fun e W' => ∃ b, e = .returned (.tuple #[.slice (some ⟨b, 0, none⟩) nh nh, .int .i64 0]) ∧ W.heap.size ≤ b ∧ OwnTr W' b nh (heapsAt (gh G) nh T nt) ∧ Below W.heap.size W W' := by
  have HO := Lib.hid hok
  have h5 := hok.h5
  have h8 := hok.t8
  have HR := Lib.hid hr
  clear hok hr
  go_enter Tryz.func13, Tryz.ntmps13
  go_wp2_with fail
  have hba : Below W.heap.size W (W.alloc (.cells #[.slice tA nt tc, .slice hA nh hc] 26)) := (by repeat (first | (with_reducible exact Below.refl _ _) | (with_reducible refine Below.drew ?_) | (with_reducible refine below_drewN ?_ _) | ((with_reducible refine below_alloc ?_ ?_ _); · (first | exact Nat.le_refl _ | omega | (simp; done) | (simp; omega) | (simp at *; omega))) | ((with_reducible refine below_set ?_ ?_ _); · (first | exact Nat.le_refl _ | omega | (simp; done) | (simp; omega) | (simp at *; omega))) | ((with_reducible refine below_via (by with_reducible assumption) ?_ ?_); · (first | exact Nat.le_refl _ | omega | (simp; done) | (simp; omega) | (simp at *; omega)))))
  have hsa : (W.alloc (.cells #[.slice tA nt tc, .slice hA nh hc] 26)).heap.size = W.heap.size + 1 := by simp
  refine (bopened_any nt nh T G HO.out _ tA hA tc hc _ ((HR.out.later hba).up)).mono ?_
  rintro e w1 ⟨db, mb, rfl, hb1, hdb, hmb, hd⟩
  have HB1 := Lib.hid (hba.trans (hb1.mono (by omega)))
  rw [hsa] at hdb hmb
  have HD := Lib.hid hd
  have hml : mb < w1.heap.size := by
    obtain ⟨g, hf, _⟩ := hd.m
    exact hf.lt
  clear hb1 hba hd
  go_wp2_with fail
  refine (hands_any _ db mb 0 tA hA nt tc nh hc T G h5 _ HD.out).mono ?_
  rintro e w2 ⟨oA, oc, rfl, ho, hoc, hb2⟩
  have HD2 := Lib.hid (HD.out.later hb2)
  have HI := Lib.hid ho
  have hz2 := hb2.size
  have HB2 := Lib.hid (HB1.out.trans (hb2.mono HB1.out.size))
  clear hb2 ho HD HB1
  go_wp2_with fail
  refine (rule_any nt nh T G HO.out _ db mb 0 (by have := Nat.mul_le_mul h8 h5; omega) tA hA oA tc hc oc _ HD2.out HI.out.row (fun c hc hn => ?_)).mono ?_
  · obtain ⟨b, e, hl, -⟩ := HI.out 0 hn
    rw [hc] at e
    injection e with e
    rw [e]
    show b ≠ mb
    omega
  rintro e w3 ⟨L, rfl, hg3, hr3⟩
  have HB3 := Lib.hid (HB2.out.grown hg3 HB2.out.size (fun k e => by injection e with e; omega))
  have HR3 := Lib.hid hr3
  have hz3 := HB2.out.size
  clear hg3 hr3
  go_wp2_with fail
  go_ret2
  exact ⟨_, rfl, by omega, HR3.out.h, HB3.out⟩
end Go.Proofs.YtmbkngfcbgbeiaaGreat
