/-
  No cell of these rows narrows 'for every input' (looked for: loops, veiled, ifaces, maps, wideKeys, modest, calm, conditions, laid).
  DERIVED. THE GIVEN ROWS OF THIS SEAT. 8 by the template 'for every input the law returns true; each argument reads behind the call as it read before'; 0 by the template 'total and deterministic' (their statements: YtnnikeolgknfoaaGreatTotals.lean).
  GIVEN WITH THE SEED: the statements are not yours to turn. If you find one false, say at which input.
  Laid BY PROGRAM, IN A SANDBOX (cutbox-rows.mjs): the forced cells as the released guide's own fill.sh prints them over the translation a710fea6c88bdcf5… (all of the seat's roots in one cut). By AI agents, Wed Nov 11 2026. No macro, syntax, notation, axiom, sorry.
-/
import Derived.Test.YtnnikeolgknfoaaGreatChecked
import GoSem.Claim
import GoSem.ClaimJoined
import GoSem.ClaimMapViews
import Derived.JoinedTies
import Derived.KernelRfl
namespace Go.Proofs.YtnnikeolgknfoaaGreat
/- THE CELL 'sum', in the pinned program and in every row, IS THE sha256 OF THE DUMP (.gsa) THAT YtnnikeolgknfoaaGreatProg.lean LOADS. Nothing in Lean hashes anything: it is a label: what it is worth is what the hold of that sum in a sandbox is worth. -/
noncomputable def Tryz.pinned : Pinned := { name := "ytnnikeolgknfoaagreat", sum := "a710fea6c88bdcf52d87572f7965622ef7c04e431f933ac52a30648e845b33cf", checked := Tryz.checked }
namespace Rows
def none {H : Type} : Left H := { results := [], args := [] }

/-- 'laystalllaw02.BinClashes': WHATEVER THE INPUT: true; the input reads as it did. -/
def binClashesSpec : ChangeSpec := { name := "binClashes", fn := fun _ => fun
  | [d] => { results := [.lit (.bool true)], args := [d] }
  | _ => none }
def binClashesRow : OpenClaim := { program := "ytnnikeolgknfoaagreat", sum := "a710fea6c88bdcf52d87572f7965622ef7c04e431f933ac52a30648e845b33cf", func := "laystall/laystalllaw02.BinClashes", spec := "binClashes", unfollowed := true, recurses := true, apart := false }
def BinClashesSaid : Prop := binClashesRow.holds Tryz.pinned (OpenSpec.ofChange binClashesSpec)

/-- ITS FALSE NEIGHBOUR: 'it returns false'. Refute it at one input. -/
def binClashesWrong : ChangeSpec := { name := "binClashes", fn := fun _ => fun
  | [d] => { results := [.lit (.bool false)], args := [d] }
  | _ => none }
def BinClashesWrongFalsely : Prop := binClashesRow.holds Tryz.pinned (OpenSpec.ofChange binClashesWrong)

/-- 'laystalllaw02.BinDays': WHATEVER THE INPUT: true; the input reads as it did. -/
def binDaysSpec : ChangeSpec := { name := "binDays", fn := fun _ => fun
  | [d1, d2, d3, d4, d5] => { results := [.lit (.bool true)], args := [d1, d2, d3, d4, d5] }
  | _ => none }
def binDaysRow : OpenClaim := { program := "ytnnikeolgknfoaagreat", sum := "a710fea6c88bdcf52d87572f7965622ef7c04e431f933ac52a30648e845b33cf", func := "laystall/laystalllaw02.BinDays", spec := "binDays", unfollowed := true, recurses := true, apart := false }
def BinDaysSaid : Prop := binDaysRow.holds Tryz.pinned (OpenSpec.ofChange binDaysSpec)

/-- ITS FALSE NEIGHBOUR: 'it returns false'. Refute it at one input. -/
def binDaysWrong : ChangeSpec := { name := "binDays", fn := fun _ => fun
  | [d1, d2, d3, d4, d5] => { results := [.lit (.bool false)], args := [d1, d2, d3, d4, d5] }
  | _ => none }
def BinDaysWrongFalsely : Prop := binDaysRow.holds Tryz.pinned (OpenSpec.ofChange binDaysWrong)

/-- 'laystalllaw02.BinNext': WHATEVER THE INPUT: true; the input reads as it did. -/
def binNextSpec : ChangeSpec := { name := "binNext", fn := fun _ => fun
  | [d1, d2, d3] => { results := [.lit (.bool true)], args := [d1, d2, d3] }
  | _ => none }
def binNextRow : OpenClaim := { program := "ytnnikeolgknfoaagreat", sum := "a710fea6c88bdcf52d87572f7965622ef7c04e431f933ac52a30648e845b33cf", func := "laystall/laystalllaw02.BinNext", spec := "binNext", unfollowed := true, recurses := true, apart := false }
def BinNextSaid : Prop := binNextRow.holds Tryz.pinned (OpenSpec.ofChange binNextSpec)

/-- ITS FALSE NEIGHBOUR: 'it returns false'. Refute it at one input. -/
def binNextWrong : ChangeSpec := { name := "binNext", fn := fun _ => fun
  | [d1, d2, d3] => { results := [.lit (.bool false)], args := [d1, d2, d3] }
  | _ => none }
def BinNextWrongFalsely : Prop := binNextRow.holds Tryz.pinned (OpenSpec.ofChange binNextWrong)

/-- 'laystalllaw02.BinSums': WHATEVER THE INPUT: true; the input reads as it did. -/
def binSumsSpec : ChangeSpec := { name := "binSums", fn := fun _ => fun
  | [d1, d2, d3] => { results := [.lit (.bool true)], args := [d1, d2, d3] }
  | _ => none }
def binSumsRow : OpenClaim := { program := "ytnnikeolgknfoaagreat", sum := "a710fea6c88bdcf52d87572f7965622ef7c04e431f933ac52a30648e845b33cf", func := "laystall/laystalllaw02.BinSums", spec := "binSums", unfollowed := true, recurses := true, apart := false }
def BinSumsSaid : Prop := binSumsRow.holds Tryz.pinned (OpenSpec.ofChange binSumsSpec)

/-- ITS FALSE NEIGHBOUR: 'it returns false'. Refute it at one input. -/
def binSumsWrong : ChangeSpec := { name := "binSums", fn := fun _ => fun
  | [d1, d2, d3] => { results := [.lit (.bool false)], args := [d1, d2, d3] }
  | _ => none }
def BinSumsWrongFalsely : Prop := binSumsRow.holds Tryz.pinned (OpenSpec.ofChange binSumsWrong)

/-- 'laystalllaw02.BinProofs': WHATEVER THE INPUT: true; the input reads as it did. -/
def binProofsSpec : ChangeSpec := { name := "binProofs", fn := fun _ => fun
  | [d1, d2, d3, d4] => { results := [.lit (.bool true)], args := [d1, d2, d3, d4] }
  | _ => none }
def binProofsRow : OpenClaim := { program := "ytnnikeolgknfoaagreat", sum := "a710fea6c88bdcf52d87572f7965622ef7c04e431f933ac52a30648e845b33cf", func := "laystall/laystalllaw02.BinProofs", spec := "binProofs", unfollowed := true, recurses := true, apart := false }
def BinProofsSaid : Prop := binProofsRow.holds Tryz.pinned (OpenSpec.ofChange binProofsSpec)

/-- ITS FALSE NEIGHBOUR: 'it returns false'. Refute it at one input. -/
def binProofsWrong : ChangeSpec := { name := "binProofs", fn := fun _ => fun
  | [d1, d2, d3, d4] => { results := [.lit (.bool false)], args := [d1, d2, d3, d4] }
  | _ => none }
def BinProofsWrongFalsely : Prop := binProofsRow.holds Tryz.pinned (OpenSpec.ofChange binProofsWrong)

/-- 'laystalllaw02.BinRows': WHATEVER THE INPUT: true; the input reads as it did. -/
def binRowsSpec : ChangeSpec := { name := "binRows", fn := fun _ => fun
  | [d1, d2] => { results := [.lit (.bool true)], args := [d1, d2] }
  | _ => none }
def binRowsRow : OpenClaim := { program := "ytnnikeolgknfoaagreat", sum := "a710fea6c88bdcf52d87572f7965622ef7c04e431f933ac52a30648e845b33cf", func := "laystall/laystalllaw02.BinRows", spec := "binRows", unfollowed := true, recurses := true, apart := false }
def BinRowsSaid : Prop := binRowsRow.holds Tryz.pinned (OpenSpec.ofChange binRowsSpec)

/-- ITS FALSE NEIGHBOUR: 'it returns false'. Refute it at one input. -/
def binRowsWrong : ChangeSpec := { name := "binRows", fn := fun _ => fun
  | [d1, d2] => { results := [.lit (.bool false)], args := [d1, d2] }
  | _ => none }
def BinRowsWrongFalsely : Prop := binRowsRow.holds Tryz.pinned (OpenSpec.ofChange binRowsWrong)

/-- 'laystalllaw02.BinTorn': WHATEVER THE INPUT: true; the input reads as it did. -/
def binTornSpec : ChangeSpec := { name := "binTorn", fn := fun _ => fun
  | [d1, d2] => { results := [.lit (.bool true)], args := [d1, d2] }
  | _ => none }
def binTornRow : OpenClaim := { program := "ytnnikeolgknfoaagreat", sum := "a710fea6c88bdcf52d87572f7965622ef7c04e431f933ac52a30648e845b33cf", func := "laystall/laystalllaw02.BinTorn", spec := "binTorn", unfollowed := true, recurses := true, apart := false }
def BinTornSaid : Prop := binTornRow.holds Tryz.pinned (OpenSpec.ofChange binTornSpec)

/-- ITS FALSE NEIGHBOUR: 'it returns false'. Refute it at one input. -/
def binTornWrong : ChangeSpec := { name := "binTorn", fn := fun _ => fun
  | [d1, d2] => { results := [.lit (.bool false)], args := [d1, d2] }
  | _ => none }
def BinTornWrongFalsely : Prop := binTornRow.holds Tryz.pinned (OpenSpec.ofChange binTornWrong)

/-- 'laystalllaw02.BinTold': WHATEVER THE INPUT: true; the input reads as it did. -/
def binToldSpec : ChangeSpec := { name := "binTold", fn := fun _ => fun
  | [d1, d2] => { results := [.lit (.bool true)], args := [d1, d2] }
  | _ => none }
def binToldRow : OpenClaim := { program := "ytnnikeolgknfoaagreat", sum := "a710fea6c88bdcf52d87572f7965622ef7c04e431f933ac52a30648e845b33cf", func := "laystall/laystalllaw02.BinTold", spec := "binTold", unfollowed := true, recurses := true, apart := false }
def BinToldSaid : Prop := binToldRow.holds Tryz.pinned (OpenSpec.ofChange binToldSpec)

/-- ITS FALSE NEIGHBOUR: 'it returns false'. Refute it at one input. -/
def binToldWrong : ChangeSpec := { name := "binTold", fn := fun _ => fun
  | [d1, d2] => { results := [.lit (.bool false)], args := [d1, d2] }
  | _ => none }
def BinToldWrongFalsely : Prop := binToldRow.holds Tryz.pinned (OpenSpec.ofChange binToldWrong)

/- THE SECOND FORM. 'bulk': how many values and letters a reading holds, each counted each time it is reached (what is shared counts as often as it is met; a slice's spare places count too). A statement '..UptoSaid' is the law's where the arguments, and the package variables that the reading takes, are together of bulk at most 1048576: NARROWER than '..Said'. Prove '..Said' where nothing that the law and all that it calls make is longer than what came in: it says more and counts as full. Else prove '..UptoSaid'. A law counts once. -/
mutual
def uptoBulk {H : Type} : DataW H → Nat
  | .lit (.string bytes) => bytes.length + 1
  | .lit _ => 1
  | .nil => 1
  | .ptr d => uptoBulk d + 1
  | .slice elems spare => uptoBulkAll elems + uptoBulkAll spare + 1
  | .agg parts => uptoBulkAll parts + 1
  | .iface _ d => uptoBulk d + 1
  | .map entries => uptoBulkEntries entries + 1
  | .held _ => 1
def uptoBulkAll {H : Type} : List (DataW H) → Nat
  | [] => 0
  | d :: r => uptoBulk d + uptoBulkAll r
def uptoBulkEntries {H : Type} : List (Lit × DataW H) → Nat
  | [] => 0
  | x :: r => uptoBulkEntry x + uptoBulkEntries r
def uptoBulkEntry {H : Type} : Lit × DataW H → Nat
  | (.string bytes, d) => bytes.length + uptoBulk d + 1
  | (_, d) => uptoBulk d + 1
 end
def uptoSmall : (H : Type) → List (DataW H) → Bool := fun _ ds => decide (uptoBulkAll ds ≤ 1048576)
def OpenSpec.upto (s : _root_.Go.ChangeSpec) : _root_.Go.OpenSpec := { _root_.Go.OpenSpec.ofChange s with cond := some uptoSmall }

/-- 'laystalllaw02.BinClashes', WHERE WHAT IT READS IS OF BULK AT MOST 1048576: true; the input reads as it did. -/
def binClashesUptoRow : OpenClaim := { program := "ytnnikeolgknfoaagreat", sum := "a710fea6c88bdcf52d87572f7965622ef7c04e431f933ac52a30648e845b33cf", func := "laystall/laystalllaw02.BinClashes", spec := "binClashes", unfollowed := true, recurses := true, apart := false, narrowed := true }
def BinClashesUptoSaid : Prop := binClashesUptoRow.holds Tryz.pinned (OpenSpec.upto binClashesSpec)

/-- 'laystalllaw02.BinDays', WHERE WHAT IT READS IS OF BULK AT MOST 1048576: true; the input reads as it did. -/
def binDaysUptoRow : OpenClaim := { program := "ytnnikeolgknfoaagreat", sum := "a710fea6c88bdcf52d87572f7965622ef7c04e431f933ac52a30648e845b33cf", func := "laystall/laystalllaw02.BinDays", spec := "binDays", unfollowed := true, recurses := true, apart := false, narrowed := true }
def BinDaysUptoSaid : Prop := binDaysUptoRow.holds Tryz.pinned (OpenSpec.upto binDaysSpec)

/-- 'laystalllaw02.BinNext', WHERE WHAT IT READS IS OF BULK AT MOST 1048576: true; the input reads as it did. -/
def binNextUptoRow : OpenClaim := { program := "ytnnikeolgknfoaagreat", sum := "a710fea6c88bdcf52d87572f7965622ef7c04e431f933ac52a30648e845b33cf", func := "laystall/laystalllaw02.BinNext", spec := "binNext", unfollowed := true, recurses := true, apart := false, narrowed := true }
def BinNextUptoSaid : Prop := binNextUptoRow.holds Tryz.pinned (OpenSpec.upto binNextSpec)

/-- 'laystalllaw02.BinSums', WHERE WHAT IT READS IS OF BULK AT MOST 1048576: true; the input reads as it did. -/
def binSumsUptoRow : OpenClaim := { program := "ytnnikeolgknfoaagreat", sum := "a710fea6c88bdcf52d87572f7965622ef7c04e431f933ac52a30648e845b33cf", func := "laystall/laystalllaw02.BinSums", spec := "binSums", unfollowed := true, recurses := true, apart := false, narrowed := true }
def BinSumsUptoSaid : Prop := binSumsUptoRow.holds Tryz.pinned (OpenSpec.upto binSumsSpec)

/-- 'laystalllaw02.BinProofs', WHERE WHAT IT READS IS OF BULK AT MOST 1048576: true; the input reads as it did. -/
def binProofsUptoRow : OpenClaim := { program := "ytnnikeolgknfoaagreat", sum := "a710fea6c88bdcf52d87572f7965622ef7c04e431f933ac52a30648e845b33cf", func := "laystall/laystalllaw02.BinProofs", spec := "binProofs", unfollowed := true, recurses := true, apart := false, narrowed := true }
def BinProofsUptoSaid : Prop := binProofsUptoRow.holds Tryz.pinned (OpenSpec.upto binProofsSpec)

/-- 'laystalllaw02.BinRows', WHERE WHAT IT READS IS OF BULK AT MOST 1048576: true; the input reads as it did. -/
def binRowsUptoRow : OpenClaim := { program := "ytnnikeolgknfoaagreat", sum := "a710fea6c88bdcf52d87572f7965622ef7c04e431f933ac52a30648e845b33cf", func := "laystall/laystalllaw02.BinRows", spec := "binRows", unfollowed := true, recurses := true, apart := false, narrowed := true }
def BinRowsUptoSaid : Prop := binRowsUptoRow.holds Tryz.pinned (OpenSpec.upto binRowsSpec)

/-- 'laystalllaw02.BinTorn', WHERE WHAT IT READS IS OF BULK AT MOST 1048576: true; the input reads as it did. -/
def binTornUptoRow : OpenClaim := { program := "ytnnikeolgknfoaagreat", sum := "a710fea6c88bdcf52d87572f7965622ef7c04e431f933ac52a30648e845b33cf", func := "laystall/laystalllaw02.BinTorn", spec := "binTorn", unfollowed := true, recurses := true, apart := false, narrowed := true }
def BinTornUptoSaid : Prop := binTornUptoRow.holds Tryz.pinned (OpenSpec.upto binTornSpec)

/-- 'laystalllaw02.BinTold', WHERE WHAT IT READS IS OF BULK AT MOST 1048576: true; the input reads as it did. -/
def binToldUptoRow : OpenClaim := { program := "ytnnikeolgknfoaagreat", sum := "a710fea6c88bdcf52d87572f7965622ef7c04e431f933ac52a30648e845b33cf", func := "laystall/laystalllaw02.BinTold", spec := "binTold", unfollowed := true, recurses := true, apart := false, narrowed := true }
def BinToldUptoSaid : Prop := binToldUptoRow.holds Tryz.pinned (OpenSpec.upto binToldSpec)

end Rows
end Go.Proofs.YtnnikeolgknfoaaGreat
