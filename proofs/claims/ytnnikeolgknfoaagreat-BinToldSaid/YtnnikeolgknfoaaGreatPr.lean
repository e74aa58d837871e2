/- Arguments opened: bytes. -/
import Derived.Test.YtnnikeolgknfoaaGreatPo
import Derived.Test.YtnnikeolgknfoaaGreatJa
set_option linter.unusedSimpArgs false
set_option linter.unusedVariables false
namespace Go.Proofs.YtnnikeolgknfoaaGreat
open Go.ChangeShapes Go.WideShapes Go.ChangeAt Go.RowKit Go.Deep Go.Joins

section
variable {H : Type} {enc : TypeId × Value → H} {w : World} {base : Nat} {spare : Nat → Bool} {held : Bool}

set_option maxRecDepth 100000 in
theorem open_bytes {fuel : Nat} {v : Value} {x : DataW H × List MemPlace} (h : DataW.trod enc Tryz.prog w base spare held fuel 92 [v] = some x) : ∃ A n c, v = .slice A n c ∧ ByIn w w.heap.size A n ∧ n ≤ maxLen := by
  rcases open_slice (e := 5) Tryz.underlying92 h with ⟨h0, _⟩ | ⟨a, len, cap, m, n, D, Pl, hcs, hb, hl, hm, hmm, hx, hi⟩
  · injection h0 with h0
    exact ⟨none, 0, 0, h0, fun k hk => absurd hk (by omega), Nat.zero_le _⟩
  · injection hcs with hcs
    have each : ∀ i, i < len → ∃ z, w.cell? (a.add i) = some (.int .u8 z) ∧ 0 ≤ z ∧ z ≤ 255 := fun k hk => by
      have him : k < m := by rw [hmm]; split <;> omega
      obtain ⟨cs', hc, ht'⟩ := hi k him
      rw [show Tryz.prog.cellsOf 5 = 1 by kernel_rfl, Nat.mul_one] at hc
      obtain ⟨_, hcl, hat⟩ := World.cells?_some hc
      obtain ⟨z, hz, hw⟩ := DataW.trod_int Tryz.underlying5 ht'
      have hcell := hat 0 (by omega)
      rw [hz] at hcell
      exact ⟨z, by simpa [Addr.add] using hcell, bounds_u8 hw.2⟩
    refine ⟨some a, len, cap, hcs, fun k hk => ?_, by omega⟩
    obtain ⟨z, hc0, hz⟩ := each k hk
    have hsp : a.spot = none := by
      obtain ⟨z0, h10, _⟩ := each 0 (by omega)
      simpa [Addr.add] using World.cell?_spot h10
    obtain ⟨b, o, sp⟩ := a
    simp only at hsp
    subst hsp
    have e : ∀ j, (⟨b, o, none⟩ : Addr).add j = ⟨b, o + j, none⟩ := fun j => Addr.add_lit _ _ _
    exact ⟨b, o, z, rfl, by have := World.block_lt_of_cell? w _ hc0; rw [e] at this; exact this, (congrArg w.cell? (e k)).symm.trans hc0, hz⟩
end
end Go.Proofs.YtnnikeolgknfoaaGreat
