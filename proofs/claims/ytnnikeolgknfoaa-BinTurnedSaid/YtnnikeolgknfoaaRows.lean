/-
  No cell of these rows narrows 'for every input' (looked for: loops, veiled, ifaces, maps, wideKeys, modest, calm, conditions, laid).
  DERIVED. THE GIVEN ROWS OF THIS SEAT. 5 by the template 'for every input the law returns true; each argument reads behind the call as it read before'; 0 by the template 'total and deterministic' (their statements: YtnnikeolgknfoaaTotals.lean).
  GIVEN WITH THE SEED: the statements are not yours to turn. If you find one false, say at which input.
  Laid BY PROGRAM, IN A SANDBOX (cutbox-rows.mjs): the forced cells as the released guide's own fill.sh prints them over the translation 534beb48ceed8ead… (all of the seat's roots in one cut). By AI agents, Wed Nov 11 2026. No macro, syntax, notation, axiom, sorry.
-/
import Derived.Test.YtnnikeolgknfoaaChecked
import GoSem.Claim
import GoSem.ClaimJoined
import GoSem.ClaimMapViews
import Derived.JoinedTies
import Derived.KernelRfl
namespace Go.Proofs.Ytnnikeolgknfoaa
/- THE CELL 'sum', in the pinned program and in every row, IS THE sha256 OF THE DUMP (.gsa) THAT YtnnikeolgknfoaaProg.lean LOADS. Nothing in Lean hashes anything: it is a label: what it is worth is what the hold of that sum in a sandbox is worth. -/
noncomputable def Try.pinned : Pinned := { name := "ytnnikeolgknfoaa", sum := "534beb48ceed8ead44d64415e07c71d24912e282b7727afdf73c86e5672bd299", checked := Try.checked }
namespace Rows
def none {H : Type} : Left H := { results := [], args := [] }

/-- 'laystalllaw02.BinMore': WHATEVER THE INPUT: true; the input reads as it did. -/
def binMoreSpec : ChangeSpec := { name := "binMore", fn := fun _ => fun
  | [d1, d2] => { results := [.lit (.bool true)], args := [d1, d2] }
  | _ => none }
def binMoreRow : OpenClaim := { program := "ytnnikeolgknfoaa", sum := "534beb48ceed8ead44d64415e07c71d24912e282b7727afdf73c86e5672bd299", func := "laystall/laystalllaw02.BinMore", spec := "binMore", unfollowed := true, recurses := true, apart := false }
def BinMoreSaid : Prop := binMoreRow.holds Try.pinned (OpenSpec.ofChange binMoreSpec)

/-- ITS FALSE NEIGHBOUR: 'it returns false'. Refute it at one input. -/
def binMoreWrong : ChangeSpec := { name := "binMore", fn := fun _ => fun
  | [d1, d2] => { results := [.lit (.bool false)], args := [d1, d2] }
  | _ => none }
def BinMoreWrongFalsely : Prop := binMoreRow.holds Try.pinned (OpenSpec.ofChange binMoreWrong)

/-- 'laystalllaw02.BinParts': WHATEVER THE INPUT: true; the input reads as it did. -/
def binPartsSpec : ChangeSpec := { name := "binParts", fn := fun _ => fun
  | [d] => { results := [.lit (.bool true)], args := [d] }
  | _ => none }
def binPartsRow : OpenClaim := { program := "ytnnikeolgknfoaa", sum := "534beb48ceed8ead44d64415e07c71d24912e282b7727afdf73c86e5672bd299", func := "laystall/laystalllaw02.BinParts", spec := "binParts", unfollowed := true, recurses := true, apart := false }
def BinPartsSaid : Prop := binPartsRow.holds Try.pinned (OpenSpec.ofChange binPartsSpec)

/-- ITS FALSE NEIGHBOUR: 'it returns false'. Refute it at one input. -/
def binPartsWrong : ChangeSpec := { name := "binParts", fn := fun _ => fun
  | [d] => { results := [.lit (.bool false)], args := [d] }
  | _ => none }
def BinPartsWrongFalsely : Prop := binPartsRow.holds Try.pinned (OpenSpec.ofChange binPartsWrong)

/-- 'laystalllaw02.BinLater': WHATEVER THE INPUT: true; the input reads as it did. -/
def binLaterSpec : ChangeSpec := { name := "binLater", fn := fun _ => fun
  | [d1, d2, d3, d4] => { results := [.lit (.bool true)], args := [d1, d2, d3, d4] }
  | _ => none }
def binLaterRow : OpenClaim := { program := "ytnnikeolgknfoaa", sum := "534beb48ceed8ead44d64415e07c71d24912e282b7727afdf73c86e5672bd299", func := "laystall/laystalllaw02.BinLater", spec := "binLater", unfollowed := true, recurses := true, apart := false }
def BinLaterSaid : Prop := binLaterRow.holds Try.pinned (OpenSpec.ofChange binLaterSpec)

/-- ITS FALSE NEIGHBOUR: 'it returns false'. Refute it at one input. -/
def binLaterWrong : ChangeSpec := { name := "binLater", fn := fun _ => fun
  | [d1, d2, d3, d4] => { results := [.lit (.bool false)], args := [d1, d2, d3, d4] }
  | _ => none }
def BinLaterWrongFalsely : Prop := binLaterRow.holds Try.pinned (OpenSpec.ofChange binLaterWrong)

/-- 'laystalllaw02.BinSettled': WHATEVER THE INPUT: true; the input reads as it did. -/
def binSettledSpec : ChangeSpec := { name := "binSettled", fn := fun _ => fun
  | [d1, d2, d3] => { results := [.lit (.bool true)], args := [d1, d2, d3] }
  | _ => none }
def binSettledRow : OpenClaim := { program := "ytnnikeolgknfoaa", sum := "534beb48ceed8ead44d64415e07c71d24912e282b7727afdf73c86e5672bd299", func := "laystall/laystalllaw02.BinSettled", spec := "binSettled", unfollowed := true, recurses := true, apart := false }
def BinSettledSaid : Prop := binSettledRow.holds Try.pinned (OpenSpec.ofChange binSettledSpec)

/-- ITS FALSE NEIGHBOUR: 'it returns false'. Refute it at one input. -/
def binSettledWrong : ChangeSpec := { name := "binSettled", fn := fun _ => fun
  | [d1, d2, d3] => { results := [.lit (.bool false)], args := [d1, d2, d3] }
  | _ => none }
def BinSettledWrongFalsely : Prop := binSettledRow.holds Try.pinned (OpenSpec.ofChange binSettledWrong)

/-- 'laystalllaw02.BinTurned': WHATEVER THE INPUT: true; the input reads as it did. -/
def binTurnedSpec : ChangeSpec := { name := "binTurned", fn := fun _ => fun
  | [d1, d2] => { results := [.lit (.bool true)], args := [d1, d2] }
  | _ => none }
def binTurnedRow : OpenClaim := { program := "ytnnikeolgknfoaa", sum := "534beb48ceed8ead44d64415e07c71d24912e282b7727afdf73c86e5672bd299", func := "laystall/laystalllaw02.BinTurned", spec := "binTurned", unfollowed := true, recurses := true, apart := false }
def BinTurnedSaid : Prop := binTurnedRow.holds Try.pinned (OpenSpec.ofChange binTurnedSpec)

/-- ITS FALSE NEIGHBOUR: 'it returns false'. Refute it at one input. -/
def binTurnedWrong : ChangeSpec := { name := "binTurned", fn := fun _ => fun
  | [d1, d2] => { results := [.lit (.bool false)], args := [d1, d2] }
  | _ => none }
def BinTurnedWrongFalsely : Prop := binTurnedRow.holds Try.pinned (OpenSpec.ofChange binTurnedWrong)

/- THE SECOND FORM. 'bulk': how many values and letters a reading holds, each counted each time it is reached (what is shared counts as often as it is met; a slice's spare places count too). A statement '..UptoSaid' is the law's where the arguments, and the package variables that the reading takes, are together of bulk at most 1048576: NARROWER than '..Said'. Prove '..Said' where nothing that the law and all that it calls make is longer than what came in: it says more and counts as full. Else prove '..UptoSaid'. A law counts once. -/
mutual
def uptoBulk {H : Type} : DataW H → Nat
  | .lit (.string bytes) => bytes.length + 1
  | .lit _ => 1
  | .nil => 1
  | .ptr d => uptoBulk d + 1
  | .slice elems spare => uptoBulkAll elems + uptoBulkAll spare + 1
  | .agg parts => uptoBulkAll parts + 1
  | .iface _ d => uptoBulk d + 1
  | .map entries => uptoBulkEntries entries + 1
  | .held _ => 1
def uptoBulkAll {H : Type} : List (DataW H) → Nat
  | [] => 0
  | d :: r => uptoBulk d + uptoBulkAll r
def uptoBulkEntries {H : Type} : List (Lit × DataW H) → Nat
  | [] => 0
  | x :: r => uptoBulkEntry x + uptoBulkEntries r
def uptoBulkEntry {H : Type} : Lit × DataW H → Nat
  | (.string bytes, d) => bytes.length + uptoBulk d + 1
  | (_, d) => uptoBulk d + 1
 end
def uptoSmall : (H : Type) → List (DataW H) → Bool := fun _ ds => decide (uptoBulkAll ds ≤ 1048576)
def OpenSpec.upto (s : _root_.Go.ChangeSpec) : _root_.Go.OpenSpec := { _root_.Go.OpenSpec.ofChange s with cond := some uptoSmall }

/-- 'laystalllaw02.BinMore', WHERE WHAT IT READS IS OF BULK AT MOST 1048576: true; the input reads as it did. -/
def binMoreUptoRow : OpenClaim := { program := "ytnnikeolgknfoaa", sum := "534beb48ceed8ead44d64415e07c71d24912e282b7727afdf73c86e5672bd299", func := "laystall/laystalllaw02.BinMore", spec := "binMore", unfollowed := true, recurses := true, apart := false, narrowed := true }
def BinMoreUptoSaid : Prop := binMoreUptoRow.holds Try.pinned (OpenSpec.upto binMoreSpec)

/-- 'laystalllaw02.BinParts', WHERE WHAT IT READS IS OF BULK AT MOST 1048576: true; the input reads as it did. -/
def binPartsUptoRow : OpenClaim := { program := "ytnnikeolgknfoaa", sum := "534beb48ceed8ead44d64415e07c71d24912e282b7727afdf73c86e5672bd299", func := "laystall/laystalllaw02.BinParts", spec := "binParts", unfollowed := true, recurses := true, apart := false, narrowed := true }
def BinPartsUptoSaid : Prop := binPartsUptoRow.holds Try.pinned (OpenSpec.upto binPartsSpec)

/-- 'laystalllaw02.BinLater', WHERE WHAT IT READS IS OF BULK AT MOST 1048576: true; the input reads as it did. -/
def binLaterUptoRow : OpenClaim := { program := "ytnnikeolgknfoaa", sum := "534beb48ceed8ead44d64415e07c71d24912e282b7727afdf73c86e5672bd299", func := "laystall/laystalllaw02.BinLater", spec := "binLater", unfollowed := true, recurses := true, apart := false, narrowed := true }
def BinLaterUptoSaid : Prop := binLaterUptoRow.holds Try.pinned (OpenSpec.upto binLaterSpec)

/-- 'laystalllaw02.BinSettled', WHERE WHAT IT READS IS OF BULK AT MOST 1048576: true; the input reads as it did. -/
def binSettledUptoRow : OpenClaim := { program := "ytnnikeolgknfoaa", sum := "534beb48ceed8ead44d64415e07c71d24912e282b7727afdf73c86e5672bd299", func := "laystall/laystalllaw02.BinSettled", spec := "binSettled", unfollowed := true, recurses := true, apart := false, narrowed := true }
def BinSettledUptoSaid : Prop := binSettledUptoRow.holds Try.pinned (OpenSpec.upto binSettledSpec)

/-- 'laystalllaw02.BinTurned', WHERE WHAT IT READS IS OF BULK AT MOST 1048576: true; the input reads as it did. -/
def binTurnedUptoRow : OpenClaim := { program := "ytnnikeolgknfoaa", sum := "534beb48ceed8ead44d64415e07c71d24912e282b7727afdf73c86e5672bd299", func := "laystall/laystalllaw02.BinTurned", spec := "binTurned", unfollowed := true, recurses := true, apart := false, narrowed := true }
def BinTurnedUptoSaid : Prop := binTurnedUptoRow.holds Try.pinned (OpenSpec.upto binTurnedSpec)

end Rows
end Go.Proofs.Ytnnikeolgknfoaa
