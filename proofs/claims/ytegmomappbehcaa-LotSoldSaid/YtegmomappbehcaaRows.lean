/-
  No cell of these rows narrows 'for every input' (looked for: loops, veiled, ifaces, maps, wideKeys, modest, calm, conditions, laid).
  DERIVED. THE GIVEN ROWS OF THIS SEAT. 13 by the template 'for every input the law returns true; each argument reads behind the call as it read before'; 0 by the template 'total and deterministic' (their statements: YtegmomappbehcaaTotals.lean).
  GIVEN WITH THE SEED: the statements are not yours to turn. If you find one false, say at which input.
  Laid BY PROGRAM, IN A SANDBOX (cutbox-rows.mjs): the forced cells as the released guide's own fill.sh prints them over the translation 8c0e1ef473116a38… (all of the seat's roots in one cut). By AI agents, Wed Nov 11 2026. No macro, syntax, notation, axiom, sorry.
-/
import Derived.Test.YtegmomappbehcaaChecked
import GoSem.Claim
import GoSem.ClaimJoined
import GoSem.ClaimMapViews
import Derived.JoinedTies
import Derived.KernelRfl
namespace Go.Proofs.Ytegmomappbehcaa
/- THE CELL 'sum', in the pinned program and in every row, IS THE sha256 OF THE DUMP (.gsa) THAT YtegmomappbehcaaProg.lean LOADS. Nothing in Lean hashes anything: it is a label: what it is worth is what the hold of that sum in a sandbox is worth. -/
noncomputable def Try.pinned : Pinned := { name := "ytegmomappbehcaa", sum := "8c0e1ef473116a38f2b1c08b0bf305d17a15baabe82c40f947f03088704fe383", checked := Try.checked }
namespace Rows
def none {H : Type} : Left H := { results := [], args := [] }

/-- 'laystalllaw06.LotMixes': WHATEVER THE INPUT: true; the input reads as it did. -/
def lotMixesSpec : ChangeSpec := { name := "lotMixes", fn := fun _ => fun
  | [d1, d2, d3, d4] => { results := [.lit (.bool true)], args := [d1, d2, d3, d4] }
  | _ => none }
def lotMixesRow : OpenClaim := { program := "ytegmomappbehcaa", sum := "8c0e1ef473116a38f2b1c08b0bf305d17a15baabe82c40f947f03088704fe383", func := "laystall/laystalllaw06.LotMixes", spec := "lotMixes", unfollowed := true, recurses := true, plainKeys := false, apart := false }
def LotMixesSaid : Prop := lotMixesRow.holds Try.pinned (OpenSpec.ofChange lotMixesSpec)

/-- ITS FALSE NEIGHBOUR: 'it returns false'. Refute it at one input. -/
def lotMixesWrong : ChangeSpec := { name := "lotMixes", fn := fun _ => fun
  | [d1, d2, d3, d4] => { results := [.lit (.bool false)], args := [d1, d2, d3, d4] }
  | _ => none }
def LotMixesWrongFalsely : Prop := lotMixesRow.holds Try.pinned (OpenSpec.ofChange lotMixesWrong)

/-- 'laystalllaw06.LotBuyers': WHATEVER THE INPUT: true; the input reads as it did. -/
def lotBuyersSpec : ChangeSpec := { name := "lotBuyers", fn := fun _ => fun
  | [d1, d2, d3, d4] => { results := [.lit (.bool true)], args := [d1, d2, d3, d4] }
  | _ => none }
def lotBuyersRow : OpenClaim := { program := "ytegmomappbehcaa", sum := "8c0e1ef473116a38f2b1c08b0bf305d17a15baabe82c40f947f03088704fe383", func := "laystall/laystalllaw06.LotBuyers", spec := "lotBuyers", unfollowed := true, recurses := true, plainKeys := false, apart := false }
def LotBuyersSaid : Prop := lotBuyersRow.holds Try.pinned (OpenSpec.ofChange lotBuyersSpec)

/-- ITS FALSE NEIGHBOUR: 'it returns false'. Refute it at one input. -/
def lotBuyersWrong : ChangeSpec := { name := "lotBuyers", fn := fun _ => fun
  | [d1, d2, d3, d4] => { results := [.lit (.bool false)], args := [d1, d2, d3, d4] }
  | _ => none }
def LotBuyersWrongFalsely : Prop := lotBuyersRow.holds Try.pinned (OpenSpec.ofChange lotBuyersWrong)

/-- 'laystalllaw06.LotPays': WHATEVER THE INPUT: true; the input reads as it did. -/
def lotPaysSpec : ChangeSpec := { name := "lotPays", fn := fun _ => fun
  | [d1, d2, d3] => { results := [.lit (.bool true)], args := [d1, d2, d3] }
  | _ => none }
def lotPaysRow : OpenClaim := { program := "ytegmomappbehcaa", sum := "8c0e1ef473116a38f2b1c08b0bf305d17a15baabe82c40f947f03088704fe383", func := "laystall/laystalllaw06.LotPays", spec := "lotPays", unfollowed := true, recurses := true, plainKeys := false, apart := false }
def LotPaysSaid : Prop := lotPaysRow.holds Try.pinned (OpenSpec.ofChange lotPaysSpec)

/-- ITS FALSE NEIGHBOUR: 'it returns false'. Refute it at one input. -/
def lotPaysWrong : ChangeSpec := { name := "lotPays", fn := fun _ => fun
  | [d1, d2, d3] => { results := [.lit (.bool false)], args := [d1, d2, d3] }
  | _ => none }
def LotPaysWrongFalsely : Prop := lotPaysRow.holds Try.pinned (OpenSpec.ofChange lotPaysWrong)

/-- 'laystalllaw06.LotTold': WHATEVER THE INPUT: true; the input reads as it did. -/
def lotToldSpec : ChangeSpec := { name := "lotTold", fn := fun _ => fun
  | [d1, d2] => { results := [.lit (.bool true)], args := [d1, d2] }
  | _ => none }
def lotToldRow : OpenClaim := { program := "ytegmomappbehcaa", sum := "8c0e1ef473116a38f2b1c08b0bf305d17a15baabe82c40f947f03088704fe383", func := "laystall/laystalllaw06.LotTold", spec := "lotTold", unfollowed := true, recurses := true, plainKeys := false, apart := false }
def LotToldSaid : Prop := lotToldRow.holds Try.pinned (OpenSpec.ofChange lotToldSpec)

/-- ITS FALSE NEIGHBOUR: 'it returns false'. Refute it at one input. -/
def lotToldWrong : ChangeSpec := { name := "lotTold", fn := fun _ => fun
  | [d1, d2] => { results := [.lit (.bool false)], args := [d1, d2] }
  | _ => none }
def LotToldWrongFalsely : Prop := lotToldRow.holds Try.pinned (OpenSpec.ofChange lotToldWrong)

/-- 'laystalllaw06.LotMixed': WHATEVER THE INPUT: true; the input reads as it did. -/
def lotMixedSpec : ChangeSpec := { name := "lotMixed", fn := fun _ => fun
  | [d1, d2] => { results := [.lit (.bool true)], args := [d1, d2] }
  | _ => none }
def lotMixedRow : OpenClaim := { program := "ytegmomappbehcaa", sum := "8c0e1ef473116a38f2b1c08b0bf305d17a15baabe82c40f947f03088704fe383", func := "laystall/laystalllaw06.LotMixed", spec := "lotMixed", unfollowed := true, recurses := true, plainKeys := false, apart := false }
def LotMixedSaid : Prop := lotMixedRow.holds Try.pinned (OpenSpec.ofChange lotMixedSpec)

/-- ITS FALSE NEIGHBOUR: 'it returns false'. Refute it at one input. -/
def lotMixedWrong : ChangeSpec := { name := "lotMixed", fn := fun _ => fun
  | [d1, d2] => { results := [.lit (.bool false)], args := [d1, d2] }
  | _ => none }
def LotMixedWrongFalsely : Prop := lotMixedRow.holds Try.pinned (OpenSpec.ofChange lotMixedWrong)

/-- 'laystalllaw06.LotNamed': WHATEVER THE INPUT: true; the input reads as it did. -/
def lotNamedSpec : ChangeSpec := { name := "lotNamed", fn := fun _ => fun
  | [d1, d2, d3] => { results := [.lit (.bool true)], args := [d1, d2, d3] }
  | _ => none }
def lotNamedRow : OpenClaim := { program := "ytegmomappbehcaa", sum := "8c0e1ef473116a38f2b1c08b0bf305d17a15baabe82c40f947f03088704fe383", func := "laystall/laystalllaw06.LotNamed", spec := "lotNamed", unfollowed := true, recurses := true, plainKeys := false, apart := false }
def LotNamedSaid : Prop := lotNamedRow.holds Try.pinned (OpenSpec.ofChange lotNamedSpec)

/-- ITS FALSE NEIGHBOUR: 'it returns false'. Refute it at one input. -/
def lotNamedWrong : ChangeSpec := { name := "lotNamed", fn := fun _ => fun
  | [d1, d2, d3] => { results := [.lit (.bool false)], args := [d1, d2, d3] }
  | _ => none }
def LotNamedWrongFalsely : Prop := lotNamedRow.holds Try.pinned (OpenSpec.ofChange lotNamedWrong)

/-- 'laystalllaw06.LotKept': WHATEVER THE INPUT: true; the input reads as it did. -/
def lotKeptSpec : ChangeSpec := { name := "lotKept", fn := fun _ => fun
  | [d1, d2, d3] => { results := [.lit (.bool true)], args := [d1, d2, d3] }
  | _ => none }
def lotKeptRow : OpenClaim := { program := "ytegmomappbehcaa", sum := "8c0e1ef473116a38f2b1c08b0bf305d17a15baabe82c40f947f03088704fe383", func := "laystall/laystalllaw06.LotKept", spec := "lotKept", unfollowed := true, recurses := true, plainKeys := false, apart := false }
def LotKeptSaid : Prop := lotKeptRow.holds Try.pinned (OpenSpec.ofChange lotKeptSpec)

/-- ITS FALSE NEIGHBOUR: 'it returns false'. Refute it at one input. -/
def lotKeptWrong : ChangeSpec := { name := "lotKept", fn := fun _ => fun
  | [d1, d2, d3] => { results := [.lit (.bool false)], args := [d1, d2, d3] }
  | _ => none }
def LotKeptWrongFalsely : Prop := lotKeptRow.holds Try.pinned (OpenSpec.ofChange lotKeptWrong)

/-- 'laystalllaw06.LotStores': WHATEVER THE INPUT: true; the input reads as it did. -/
def lotStoresSpec : ChangeSpec := { name := "lotStores", fn := fun _ => fun
  | [d1, d2, d3, d4] => { results := [.lit (.bool true)], args := [d1, d2, d3, d4] }
  | _ => none }
def lotStoresRow : OpenClaim := { program := "ytegmomappbehcaa", sum := "8c0e1ef473116a38f2b1c08b0bf305d17a15baabe82c40f947f03088704fe383", func := "laystall/laystalllaw06.LotStores", spec := "lotStores", unfollowed := true, recurses := true, plainKeys := false, apart := false }
def LotStoresSaid : Prop := lotStoresRow.holds Try.pinned (OpenSpec.ofChange lotStoresSpec)

/-- ITS FALSE NEIGHBOUR: 'it returns false'. Refute it at one input. -/
def lotStoresWrong : ChangeSpec := { name := "lotStores", fn := fun _ => fun
  | [d1, d2, d3, d4] => { results := [.lit (.bool false)], args := [d1, d2, d3, d4] }
  | _ => none }
def LotStoresWrongFalsely : Prop := lotStoresRow.holds Try.pinned (OpenSpec.ofChange lotStoresWrong)

/-- 'laystalllaw06.LotOpened': WHATEVER THE INPUT: true; the input reads as it did. -/
def lotOpenedSpec : ChangeSpec := { name := "lotOpened", fn := fun _ => fun
  | [d1, d2, d3] => { results := [.lit (.bool true)], args := [d1, d2, d3] }
  | _ => none }
def lotOpenedRow : OpenClaim := { program := "ytegmomappbehcaa", sum := "8c0e1ef473116a38f2b1c08b0bf305d17a15baabe82c40f947f03088704fe383", func := "laystall/laystalllaw06.LotOpened", spec := "lotOpened", unfollowed := true, recurses := true, plainKeys := false, apart := false }
def LotOpenedSaid : Prop := lotOpenedRow.holds Try.pinned (OpenSpec.ofChange lotOpenedSpec)

/-- ITS FALSE NEIGHBOUR: 'it returns false'. Refute it at one input. -/
def lotOpenedWrong : ChangeSpec := { name := "lotOpened", fn := fun _ => fun
  | [d1, d2, d3] => { results := [.lit (.bool false)], args := [d1, d2, d3] }
  | _ => none }
def LotOpenedWrongFalsely : Prop := lotOpenedRow.holds Try.pinned (OpenSpec.ofChange lotOpenedWrong)

/-- 'laystalllaw06.LotPlans': WHATEVER THE INPUT: true; the input reads as it did. -/
def lotPlansSpec : ChangeSpec := { name := "lotPlans", fn := fun _ => fun
  | [d1, d2, d3] => { results := [.lit (.bool true)], args := [d1, d2, d3] }
  | _ => none }
def lotPlansRow : OpenClaim := { program := "ytegmomappbehcaa", sum := "8c0e1ef473116a38f2b1c08b0bf305d17a15baabe82c40f947f03088704fe383", func := "laystall/laystalllaw06.LotPlans", spec := "lotPlans", unfollowed := true, recurses := true, plainKeys := false, apart := false }
def LotPlansSaid : Prop := lotPlansRow.holds Try.pinned (OpenSpec.ofChange lotPlansSpec)

/-- ITS FALSE NEIGHBOUR: 'it returns false'. Refute it at one input. -/
def lotPlansWrong : ChangeSpec := { name := "lotPlans", fn := fun _ => fun
  | [d1, d2, d3] => { results := [.lit (.bool false)], args := [d1, d2, d3] }
  | _ => none }
def LotPlansWrongFalsely : Prop := lotPlansRow.holds Try.pinned (OpenSpec.ofChange lotPlansWrong)

/-- 'laystalllaw06.LotEarned': WHATEVER THE INPUT: true; the input reads as it did. -/
def lotEarnedSpec : ChangeSpec := { name := "lotEarned", fn := fun _ => fun
  | [d1, d2] => { results := [.lit (.bool true)], args := [d1, d2] }
  | _ => none }
def lotEarnedRow : OpenClaim := { program := "ytegmomappbehcaa", sum := "8c0e1ef473116a38f2b1c08b0bf305d17a15baabe82c40f947f03088704fe383", func := "laystall/laystalllaw06.LotEarned", spec := "lotEarned", unfollowed := true, recurses := true, plainKeys := false, apart := false }
def LotEarnedSaid : Prop := lotEarnedRow.holds Try.pinned (OpenSpec.ofChange lotEarnedSpec)

/-- ITS FALSE NEIGHBOUR: 'it returns false'. Refute it at one input. -/
def lotEarnedWrong : ChangeSpec := { name := "lotEarned", fn := fun _ => fun
  | [d1, d2] => { results := [.lit (.bool false)], args := [d1, d2] }
  | _ => none }
def LotEarnedWrongFalsely : Prop := lotEarnedRow.holds Try.pinned (OpenSpec.ofChange lotEarnedWrong)

/-- 'laystalllaw06.LotFouls': WHATEVER THE INPUT: true; the input reads as it did. -/
def lotFoulsSpec : ChangeSpec := { name := "lotFouls", fn := fun _ => fun
  | [d1, d2, d3, d4] => { results := [.lit (.bool true)], args := [d1, d2, d3, d4] }
  | _ => none }
def lotFoulsRow : OpenClaim := { program := "ytegmomappbehcaa", sum := "8c0e1ef473116a38f2b1c08b0bf305d17a15baabe82c40f947f03088704fe383", func := "laystall/laystalllaw06.LotFouls", spec := "lotFouls", unfollowed := true, recurses := true, plainKeys := false, apart := false }
def LotFoulsSaid : Prop := lotFoulsRow.holds Try.pinned (OpenSpec.ofChange lotFoulsSpec)

/-- ITS FALSE NEIGHBOUR: 'it returns false'. Refute it at one input. -/
def lotFoulsWrong : ChangeSpec := { name := "lotFouls", fn := fun _ => fun
  | [d1, d2, d3, d4] => { results := [.lit (.bool false)], args := [d1, d2, d3, d4] }
  | _ => none }
def LotFoulsWrongFalsely : Prop := lotFoulsRow.holds Try.pinned (OpenSpec.ofChange lotFoulsWrong)

/-- 'laystalllaw06.LotSold': WHATEVER THE INPUT: true; the input reads as it did. -/
def lotSoldSpec : ChangeSpec := { name := "lotSold", fn := fun _ => fun
  | [d1, d2] => { results := [.lit (.bool true)], args := [d1, d2] }
  | _ => none }
def lotSoldRow : OpenClaim := { program := "ytegmomappbehcaa", sum := "8c0e1ef473116a38f2b1c08b0bf305d17a15baabe82c40f947f03088704fe383", func := "laystall/laystalllaw06.LotSold", spec := "lotSold", unfollowed := true, recurses := true, plainKeys := false, apart := false }
def LotSoldSaid : Prop := lotSoldRow.holds Try.pinned (OpenSpec.ofChange lotSoldSpec)

/-- ITS FALSE NEIGHBOUR: 'it returns false'. Refute it at one input. -/
def lotSoldWrong : ChangeSpec := { name := "lotSold", fn := fun _ => fun
  | [d1, d2] => { results := [.lit (.bool false)], args := [d1, d2] }
  | _ => none }
def LotSoldWrongFalsely : Prop := lotSoldRow.holds Try.pinned (OpenSpec.ofChange lotSoldWrong)

/- THE SECOND FORM. 'bulk': how many values and letters a reading holds, each counted each time it is reached (what is shared counts as often as it is met; a slice's spare places count too). A statement '..UptoSaid' is the law's where the arguments, and the package variables that the reading takes, are together of bulk at most 1048576: NARROWER than '..Said'. Prove '..Said' where nothing that the law and all that it calls make is longer than what came in: it says more and counts as full. Else prove '..UptoSaid'. A law counts once. -/
mutual
def uptoBulk {H : Type} : DataW H → Nat
  | .lit (.string bytes) => bytes.length + 1
  | .lit _ => 1
  | .nil => 1
  | .ptr d => uptoBulk d + 1
  | .slice elems spare => uptoBulkAll elems + uptoBulkAll spare + 1
  | .agg parts => uptoBulkAll parts + 1
  | .iface _ d => uptoBulk d + 1
  | .map entries => uptoBulkEntries entries + 1
  | .held _ => 1
def uptoBulkAll {H : Type} : List (DataW H) → Nat
  | [] => 0
  | d :: r => uptoBulk d + uptoBulkAll r
def uptoBulkEntries {H : Type} : List (Lit × DataW H) → Nat
  | [] => 0
  | x :: r => uptoBulkEntry x + uptoBulkEntries r
def uptoBulkEntry {H : Type} : Lit × DataW H → Nat
  | (.string bytes, d) => bytes.length + uptoBulk d + 1
  | (_, d) => uptoBulk d + 1
 end
def uptoSmall : (H : Type) → List (DataW H) → Bool := fun _ ds => decide (uptoBulkAll ds ≤ 1048576)
def OpenSpec.upto (s : _root_.Go.ChangeSpec) : _root_.Go.OpenSpec := { _root_.Go.OpenSpec.ofChange s with cond := some uptoSmall }

/-- 'laystalllaw06.LotMixes', WHERE WHAT IT READS IS OF BULK AT MOST 1048576: true; the input reads as it did. -/
def lotMixesUptoRow : OpenClaim := { program := "ytegmomappbehcaa", sum := "8c0e1ef473116a38f2b1c08b0bf305d17a15baabe82c40f947f03088704fe383", func := "laystall/laystalllaw06.LotMixes", spec := "lotMixes", unfollowed := true, recurses := true, plainKeys := false, apart := false, narrowed := true }
def LotMixesUptoSaid : Prop := lotMixesUptoRow.holds Try.pinned (OpenSpec.upto lotMixesSpec)

/-- 'laystalllaw06.LotBuyers', WHERE WHAT IT READS IS OF BULK AT MOST 1048576: true; the input reads as it did. -/
def lotBuyersUptoRow : OpenClaim := { program := "ytegmomappbehcaa", sum := "8c0e1ef473116a38f2b1c08b0bf305d17a15baabe82c40f947f03088704fe383", func := "laystall/laystalllaw06.LotBuyers", spec := "lotBuyers", unfollowed := true, recurses := true, plainKeys := false, apart := false, narrowed := true }
def LotBuyersUptoSaid : Prop := lotBuyersUptoRow.holds Try.pinned (OpenSpec.upto lotBuyersSpec)

/-- 'laystalllaw06.LotPays', WHERE WHAT IT READS IS OF BULK AT MOST 1048576: true; the input reads as it did. -/
def lotPaysUptoRow : OpenClaim := { program := "ytegmomappbehcaa", sum := "8c0e1ef473116a38f2b1c08b0bf305d17a15baabe82c40f947f03088704fe383", func := "laystall/laystalllaw06.LotPays", spec := "lotPays", unfollowed := true, recurses := true, plainKeys := false, apart := false, narrowed := true }
def LotPaysUptoSaid : Prop := lotPaysUptoRow.holds Try.pinned (OpenSpec.upto lotPaysSpec)

/-- 'laystalllaw06.LotTold', WHERE WHAT IT READS IS OF BULK AT MOST 1048576: true; the input reads as it did. -/
def lotToldUptoRow : OpenClaim := { program := "ytegmomappbehcaa", sum := "8c0e1ef473116a38f2b1c08b0bf305d17a15baabe82c40f947f03088704fe383", func := "laystall/laystalllaw06.LotTold", spec := "lotTold", unfollowed := true, recurses := true, plainKeys := false, apart := false, narrowed := true }
def LotToldUptoSaid : Prop := lotToldUptoRow.holds Try.pinned (OpenSpec.upto lotToldSpec)

/-- 'laystalllaw06.LotMixed', WHERE WHAT IT READS IS OF BULK AT MOST 1048576: true; the input reads as it did. -/
def lotMixedUptoRow : OpenClaim := { program := "ytegmomappbehcaa", sum := "8c0e1ef473116a38f2b1c08b0bf305d17a15baabe82c40f947f03088704fe383", func := "laystall/laystalllaw06.LotMixed", spec := "lotMixed", unfollowed := true, recurses := true, plainKeys := false, apart := false, narrowed := true }
def LotMixedUptoSaid : Prop := lotMixedUptoRow.holds Try.pinned (OpenSpec.upto lotMixedSpec)

/-- 'laystalllaw06.LotNamed', WHERE WHAT IT READS IS OF BULK AT MOST 1048576: true; the input reads as it did. -/
def lotNamedUptoRow : OpenClaim := { program := "ytegmomappbehcaa", sum := "8c0e1ef473116a38f2b1c08b0bf305d17a15baabe82c40f947f03088704fe383", func := "laystall/laystalllaw06.LotNamed", spec := "lotNamed", unfollowed := true, recurses := true, plainKeys := false, apart := false, narrowed := true }
def LotNamedUptoSaid : Prop := lotNamedUptoRow.holds Try.pinned (OpenSpec.upto lotNamedSpec)

/-- 'laystalllaw06.LotKept', WHERE WHAT IT READS IS OF BULK AT MOST 1048576: true; the input reads as it did. -/
def lotKeptUptoRow : OpenClaim := { program := "ytegmomappbehcaa", sum := "8c0e1ef473116a38f2b1c08b0bf305d17a15baabe82c40f947f03088704fe383", func := "laystall/laystalllaw06.LotKept", spec := "lotKept", unfollowed := true, recurses := true, plainKeys := false, apart := false, narrowed := true }
def LotKeptUptoSaid : Prop := lotKeptUptoRow.holds Try.pinned (OpenSpec.upto lotKeptSpec)

/-- 'laystalllaw06.LotStores', WHERE WHAT IT READS IS OF BULK AT MOST 1048576: true; the input reads as it did. -/
def lotStoresUptoRow : OpenClaim := { program := "ytegmomappbehcaa", sum := "8c0e1ef473116a38f2b1c08b0bf305d17a15baabe82c40f947f03088704fe383", func := "laystall/laystalllaw06.LotStores", spec := "lotStores", unfollowed := true, recurses := true, plainKeys := false, apart := false, narrowed := true }
def LotStoresUptoSaid : Prop := lotStoresUptoRow.holds Try.pinned (OpenSpec.upto lotStoresSpec)

/-- 'laystalllaw06.LotOpened', WHERE WHAT IT READS IS OF BULK AT MOST 1048576: true; the input reads as it did. -/
def lotOpenedUptoRow : OpenClaim := { program := "ytegmomappbehcaa", sum := "8c0e1ef473116a38f2b1c08b0bf305d17a15baabe82c40f947f03088704fe383", func := "laystall/laystalllaw06.LotOpened", spec := "lotOpened", unfollowed := true, recurses := true, plainKeys := false, apart := false, narrowed := true }
def LotOpenedUptoSaid : Prop := lotOpenedUptoRow.holds Try.pinned (OpenSpec.upto lotOpenedSpec)

/-- 'laystalllaw06.LotPlans', WHERE WHAT IT READS IS OF BULK AT MOST 1048576: true; the input reads as it did. -/
def lotPlansUptoRow : OpenClaim := { program := "ytegmomappbehcaa", sum := "8c0e1ef473116a38f2b1c08b0bf305d17a15baabe82c40f947f03088704fe383", func := "laystall/laystalllaw06.LotPlans", spec := "lotPlans", unfollowed := true, recurses := true, plainKeys := false, apart := false, narrowed := true }
def LotPlansUptoSaid : Prop := lotPlansUptoRow.holds Try.pinned (OpenSpec.upto lotPlansSpec)

/-- 'laystalllaw06.LotEarned', WHERE WHAT IT READS IS OF BULK AT MOST 1048576: true; the input reads as it did. -/
def lotEarnedUptoRow : OpenClaim := { program := "ytegmomappbehcaa", sum := "8c0e1ef473116a38f2b1c08b0bf305d17a15baabe82c40f947f03088704fe383", func := "laystall/laystalllaw06.LotEarned", spec := "lotEarned", unfollowed := true, recurses := true, plainKeys := false, apart := false, narrowed := true }
def LotEarnedUptoSaid : Prop := lotEarnedUptoRow.holds Try.pinned (OpenSpec.upto lotEarnedSpec)

/-- 'laystalllaw06.LotFouls', WHERE WHAT IT READS IS OF BULK AT MOST 1048576: true; the input reads as it did. -/
def lotFoulsUptoRow : OpenClaim := { program := "ytegmomappbehcaa", sum := "8c0e1ef473116a38f2b1c08b0bf305d17a15baabe82c40f947f03088704fe383", func := "laystall/laystalllaw06.LotFouls", spec := "lotFouls", unfollowed := true, recurses := true, plainKeys := false, apart := false, narrowed := true }
def LotFoulsUptoSaid : Prop := lotFoulsUptoRow.holds Try.pinned (OpenSpec.upto lotFoulsSpec)

/-- 'laystalllaw06.LotSold', WHERE WHAT IT READS IS OF BULK AT MOST 1048576: true; the input reads as it did. -/
def lotSoldUptoRow : OpenClaim := { program := "ytegmomappbehcaa", sum := "8c0e1ef473116a38f2b1c08b0bf305d17a15baabe82c40f947f03088704fe383", func := "laystall/laystalllaw06.LotSold", spec := "lotSold", unfollowed := true, recurses := true, plainKeys := false, apart := false, narrowed := true }
def LotSoldUptoSaid : Prop := lotSoldUptoRow.holds Try.pinned (OpenSpec.upto lotSoldSpec)

end Rows
end Go.Proofs.Ytegmomappbehcaa
