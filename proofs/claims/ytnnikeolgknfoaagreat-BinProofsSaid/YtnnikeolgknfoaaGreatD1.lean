/- The examples of the chapter, plain: what the program answers at Three, and at Three with one weighing more. No program here. -/
import Derived.Test.YtnnikeolgknfoaaGreatBs
import Derived.Test.YtnnikeolgknfoaaGreatBw
import Derived.Test.YtnnikeolgknfoaaGreatBx
import Derived.Test.YtnnikeolgknfoaaGreatC1
set_option linter.unusedSimpArgs false
set_option linter.unusedVariables false
namespace Go.Proofs.YtnnikeolgknfoaaGreat

def bn3 (i : Nat) : Bn := match i with
  | 0 => ⟨fun k => match k with | 0 => 5 | 1 => 20 | _ => 0, fun k => match k with | 0 => 10 | 1 => 40 | _ => 0, 0⟩
  | 1 => ⟨fun k => match k with | 0 => 0 | 1 => 10 | _ => 0, fun k => match k with | 0 => 20 | 1 => 30 | _ => 0, 0⟩
  | _ => ⟨fun k => match k with | 0 => 4 | 1 => 8 | _ => 0, fun k => match k with | 0 => 6 | 1 => 12 | _ => 0, 2⟩
def rw3 : Rw := ⟨3, bn3, 3, fun k => match k with | 2 => 1 | _ => 0, 1, fun _ => ⟨0, 1, 60, 4⟩⟩
def rt3 : Rw := { rw3 with m := 2, V := fun k => match k with | 0 => ⟨0, 1, 60, 4⟩ | _ => ⟨1, 2, 50, 0⟩ }
theorem rw3_check : rw3.check = 0 := by decide +kernel
theorem rw3_rd : rw3.round = [] := by decide +kernel
theorem rt3_check : rt3.check = 0 := by decide +kernel
theorem rw3_fit : rw3.fitErr = 0 := by decide +kernel
theorem rw3_sp : rw3.sp 0 = ⟨30, 60⟩ ∧ rw3.sp 1 = ⟨10, 70⟩ ∧ rw3.sp 2 = ⟨8, 12⟩ := by decide +kernel
theorem rw3_holds : rw3.span 0 0 = ⟨30, 54⟩ ∧ rw3.span 1 1 = ⟨10, 34⟩ ∧ rw3.span 2 2 = ⟨8, 12⟩ := by decide +kernel
theorem rw3_sum : rw3.sumS 0 2 = ⟨64, 76⟩ ∧ rw3.askErr 0 2 = 0 := by decide +kernel
def wk3 : Nat → Fc := fun k => match k with | 0 => ⟨true, 0, true⟩ | _ => ⟨false, 1, false⟩
def wt3 : Nat → Fc := fun k => match k with | 0 => ⟨false, 0, false⟩ | 1 => ⟨true, 0, true⟩ | 2 => ⟨false, 2, true⟩ | _ => ⟨true, 1, false⟩
theorem rw3_shows : rw3.showsR 0 0 true 2 wk3 = (54, 0) := by decide +kernel
theorem rw3_next : rw3.nextR = (0, 0, 12) := by decide +kernel
theorem rt3_torn : rt3.torn = true := by decide +kernel
end Go.Proofs.YtnnikeolgknfoaaGreat
