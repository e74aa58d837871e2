/- A function's blocks by their numbers: for a law cut into a theorem for each loop. -/
import Derived.Test.YtnnikeolgknfoaaGreatGa
set_option linter.unusedSimpArgs false
set_option linter.unusedVariables false
namespace Go.Proofs.YtnnikeolgknfoaaGreat

/-- the block of a number -/
def blkOf (n : Nat) : Code → Option Code
  | .block m b => match Nat.beq m n with
    | true => some (.block m b)
    | false => blkOf n b
  | .seq x y => match blkOf n x with
    | some c => some c
    | none => blkOf n y
  | .loop b => blkOf n b
  | .cond _ x y => match blkOf n x with
    | some c => some c
    | none => blkOf n y
  | .scope b => blkOf n b
  | _ => none
/-- a block of a function's body -/
def blkIn (f : Func) (n : Nat) : Code := (blkOf n (f.body.getD .skip)).getD .skip
/-- what a function's spine is from a region on -/
def fromRg (n : Nat) : Code → Code
  | .seq (.region m ops b) y => match Nat.beq m n with
    | true => .seq (.region m ops b) y
    | false => fromRg n y
  | .seq _ y => fromRg n y
  | c => c
def hdRg : Code → Code
  | .seq a _ => a
  | c => c
def tlRg : Code → Code
  | .seq _ b => b
  | c => c
end Go.Proofs.YtnnikeolgknfoaaGreat
