/- The examples of the chapter: what the contracts of lot say of the store of example 1. -/
import Derived.Test.YtmbkngfcbgbeiaaGreatWz
import Derived.Test.YtmbkngfcbgbeiaaGreatWs
import Derived.Test.YtmbkngfcbgbeiaaGreatWv
set_option linter.unusedSimpArgs false
set_option linter.unusedVariables false
namespace Go.Proofs.YtmbkngfcbgbeiaaGreat
open Go.RowKit Go.Shelf
def st3 : St := { n := 3, P := fun k => match k with | 0 => ⟨4, 2, 0, 0⟩ | 1 => ⟨6, 1, 2, 0⟩ | 2 => ⟨3, 3, 2, 1⟩ | _ => ⟨0, 0, 0, 0⟩, m := 2, G := fun k => match k with | 0 => ⟨10, 9⟩ | 1 => ⟨30, 6⟩ | _ => ⟨0, 0⟩, lots := 2 }
def lst (l : List Int) (k : Nat) : Int := l.getD k 0
theorem st3_foul : st3.foulR 2 = (1, 2, 0) := by decide +kernel
theorem st3_span : st3.spanR 3 (lst [4, 6, 3]) = (1, 5, 0) := by decide +kernel
theorem st3_sure : st3.sureR 3 (lst [4, 6, 0]) = (1, 0) := by decide +kernel
theorem st3_brings : st3.bringsR 3 (lst [0, 6, 1]) = (42, 0) := by decide +kernel
theorem st3_spare : st3.spareR 3 (lst [0, 2, 0]) 1 1 = (4, 0) := by decide +kernel
theorem st3_kept : st3.keptR 3 (lst [4, 6, 0]) 5 2 = (false, 0) := by decide +kernel
theorem st3_left : st3.leftR 3 (lst [4, 6, 0]) 5 3 = (3, 3, 0) := by decide +kernel
theorem st3_samp : st3.sampErr 3 (lst [4, 6, 0]) 5 3 = 0 := by decide +kernel
theorem st3_told : st3.told (bagOf (lst [4, 6, 0]) 3) (st3.leftLo (bagOf (lst [4, 6, 0]) 3) 3) (st3.leftHi (bagOf (lst [4, 6, 0]) 3) 5 3) 0 = (2, 2) ∧ st3.told (bagOf (lst [4, 6, 0]) 3) (st3.leftLo (bagOf (lst [4, 6, 0]) 3) 3) (st3.leftHi (bagOf (lst [4, 6, 0]) 3) 5 3) 1 = (1, 1) ∧
    st3.told (bagOf (lst [4, 6, 0]) 3) (st3.leftLo (bagOf (lst [4, 6, 0]) 3) 3) (st3.leftHi (bagOf (lst [4, 6, 0]) 3) 5 3) 2 = (1, 2) := by decide +kernel
theorem st3_bound : st3.boundR 3 (lst [5, 7, 0]) = (62, 0) := by decide +kernel
theorem st3_check : st3.check = 0 := by decide +kernel
theorem st3_most : st3.mostErr 1 = 0 ∧ (st3.most (st3.G 1)).at 0 = 4 ∧ (st3.most (st3.G 1)).at 1 = 6 ∧ (st3.most (st3.G 1)).at 2 = 0 := by decide +kernel
theorem st3_best : (st3.choose st3.lots.toNat st3.all).2 = 60 := by decide +kernel
theorem st3_pays : st3.paysR 1 4 = (60, 69, 0) := by decide +kernel
end Go.Proofs.YtmbkngfcbgbeiaaGreat
