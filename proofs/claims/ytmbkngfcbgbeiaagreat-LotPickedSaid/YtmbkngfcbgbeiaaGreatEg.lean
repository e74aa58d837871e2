/- Worlds that grew, but for one block. -/
import Derived.Test.YtmbkngfcbgbeiaaGreatWy
set_option linter.unusedSimpArgs false
set_option linter.unusedVariables false
namespace Go.Proofs.YtmbkngfcbgbeiaaGreat
open Go.RowKit Go.Shelf

theorem gb_trans {A C D : World} {m : Nat} (h : A.grownBy C (some m)) (k : C.grownBy D (some m)) : A.grownBy D (some m) :=
  ⟨k.os.trans h.os, k.tape.trans h.tape, k.output.trans h.output, Nat.le_trans h.size k.size, fun i hi hn => (k.block i (Nat.lt_of_lt_of_le hi h.size) hn).trans (h.block i hi hn)⟩
theorem gb_set (W : World) (b o : Nat) (v : Value) : W.grownBy (W.setCell ⟨b, o, none⟩ v) (some b) :=
  ⟨rfl, rfl, rfl, by simp [World.setCell], fun i _ hn => Below.heap_setCell _ _ _ _ (fun e => hn (by rw [e]))⟩
theorem gb_below {A C : World} {m B : Nat} (h : A.grownBy C (some m)) (hB : B ≤ A.heap.size) (hm : B ≤ m) : Below B A C :=
  (Below.refl B A).grown h hB (fun k e => by injection e with e; omega)

end Go.Proofs.YtmbkngfcbgbeiaaGreat
