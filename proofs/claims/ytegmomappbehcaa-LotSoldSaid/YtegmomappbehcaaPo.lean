/- Arguments opened to rows of numbers. -/
import Derived.Test.YtegmomappbehcaaWh
import Derived.ProofKit
import Derived.Deep.Slices
import Derived.Deep.Fields
import Derived.Lib.SmallJoins
set_option linter.unusedSimpArgs false
set_option linter.unusedVariables false
namespace Go.Proofs.Ytegmomappbehcaa
open Go.ChangeShapes Go.WideShapes Go.ChangeAt Go.RowKit Go.Deep Go.Joins

/-- the number in a cell -/
def numAt (w : World) (a : Addr) : Int := match w.cell? a with | some (.int _ z) => z | _ => 0
theorem numAt_eq {w : World} {a : Addr} {z : Int} (h : w.cell? a = some (.int .i64 z)) : w.cell? a = some (.int .i64 (numAt w a)) := by
  unfold numAt; rw [h]

section
variable {H : Type} {enc : TypeId × Value → H} {w : World} {base : Nat} {spare : Nat → Bool} {held : Bool}

set_option maxRecDepth 100000 in
/-- a slice of structs of integers alone: its cells -/
theorem open_cells {t e : TypeId} {fs : Array Field} {fuel : Nat} {cs : List Value} {x : DataW H × List MemPlace} (ht : Try.prog.underlying t = some (.slice e)) (he : Try.prog.underlying e = some (.struct fs))
    (hone : oneCellFields Try.prog fs = true) (hC : Try.prog.cellsOf e = fs.size) (hint : ∀ (j : Nat) (f : Field), fs[j]? = some f → Try.prog.underlying f.type = some (.int .i64)) (h : DataW.trod enc Try.prog w base spare held fuel t cs = some x) :
    cs = [.slice none 0 0] ∨ ∃ (a : Addr) (len cap : Nat), cs = [.slice (some a) len cap] ∧ len ≤ cap ∧ ∀ i j, i < len → j < fs.size → w.cell? (a.add (i * fs.size + j)) = some (.int .i64 (numAt w (a.add (i * fs.size + j)))) := by
  rcases open_slice ht h with ⟨h0, _⟩ | ⟨a, len, cap, m, n, D, Pl, hcs, hb, hl, hm, hmm, hx, hi⟩
  · exact .inl h0
  · refine .inr ⟨a, len, cap, hcs, hl, fun i j hil hjl => ?_⟩
    have him : i < m := by rw [hmm]; split <;> omega
    obtain ⟨cs', hc, ht'⟩ := hi i him
    rw [hC] at hc
    obtain ⟨ys, n', hn', hy, hlen, hyl, hf⟩ := DataW.trod_struct he ht'
    obtain ⟨_, hcl, hat⟩ := World.cells?_some hc
    obtain ⟨f, hfj⟩ : ∃ f, fs[j]? = some f := ⟨fs[j], Array.getElem?_eq_getElem hjl⟩
    obtain ⟨ho, hk⟩ := hone_of hone j f hfj
    have hcell := hat j hjl
    have hv : cs'[j]? = some (cs'[j]'(by omega)) := List.getElem?_eq_getElem (by omega)
    have h1 := hf j f hfj
    rw [ho, hk] at h1
    have hone' : (cs'.drop j).take 1 = [cs'[j]'(by omega)] := by
      rw [List.drop_eq_getElem_cons (by omega)]
      rfl
    rw [hone'] at h1
    have hys : ys[j]? = some (ys[j]'(by omega)) := List.getElem?_eq_getElem (by omega)
    obtain ⟨z, hz, _⟩ := DataW.trod_int (hint j f hfj) (h1.trans hys)
    injection hz with hz
    rw [Go.Deep.add_add, hv, hz] at hcell
    exact numAt_eq hcell
set_option maxRecDepth 100000 in
/-- a slice of integers: its cells -/
theorem open_nums {t e : TypeId} {fuel : Nat} {cs : List Value} {x : DataW H × List MemPlace} (ht : Try.prog.underlying t = some (.slice e)) (he : Try.prog.underlying e = some (.int .i64)) (hC : Try.prog.cellsOf e = 1)
    (h : DataW.trod enc Try.prog w base spare held fuel t cs = some x) :
    cs = [.slice none 0 0] ∨ ∃ (a : Addr) (len cap : Nat), cs = [.slice (some a) len cap] ∧ len ≤ cap ∧ ∀ i, i < len → w.cell? (a.add i) = some (.int .i64 (numAt w (a.add i))) := by
  rcases open_slice ht h with ⟨h0, _⟩ | ⟨a, len, cap, m, n, D, Pl, hcs, hb, hl, hm, hmm, hx, hi⟩
  · exact .inl h0
  · refine .inr ⟨a, len, cap, hcs, hl, fun i hil => ?_⟩
    have him : i < m := by rw [hmm]; split <;> omega
    obtain ⟨cs', hc, ht'⟩ := hi i him
    rw [hC, Nat.mul_one] at hc
    obtain ⟨_, hcl, hat⟩ := World.cells?_some hc
    obtain ⟨z, hz, _⟩ := DataW.trod_int he ht'
    have hcell := hat 0 (by omega)
    rw [hz] at hcell
    have : w.cell? (a.add i) = some (.int .i64 z) := by simpa [Addr.add] using hcell
    exact numAt_eq this

set_option maxRecDepth 100000 in
theorem open_pkrow {fuel : Nat} {v : Value} {x : DataW H × List MemPlace} (h : DataW.trod enc Try.prog w base spare held fuel 22 [v] = some x) : ∃ A n c P, v = .slice A n c ∧ PkRow w w.heap.size A n P ∧ n ≤ c := by
  rcases open_cells (e := 75) Try.underlying22 Try.underlying75 (by kernel_rfl) (by kernel_rfl) (fun j f hj => by
    match j, hj with
    | 0, hj => injection hj with hj; subst hj; exact Try.underlying3
    | 1, hj => injection hj with hj; subst hj; exact Try.underlying3
    | 2, hj => injection hj with hj; subst hj; exact Try.underlying3
    | 3, hj => injection hj with hj; subst hj; exact Try.underlying3
    | j + 4, hj => cases hj) h with h0 | ⟨a, len, cap, hcs, hl, hc⟩
  · injection h0 with h0
    exact ⟨none, 0, 0, fun _ => ⟨0, 0, 0, 0⟩, h0, fun k hk => absurd hk (by omega), Nat.le_refl _⟩
  · injection hcs with hcs
    refine ⟨some a, len, cap, fun k => ⟨numAt w (a.add (k * 4 + 0)), numAt w (a.add (k * 4 + 1)), numAt w (a.add (k * 4 + 2)), numAt w (a.add (k * 4 + 3))⟩, hcs, fun k hk => ?_, hl⟩
    have c0 := hc k 0 hk (by decide)
    have c1 := hc k 1 hk (by decide)
    have c2 := hc k 2 hk (by decide)
    have c3 := hc k 3 hk (by decide)
    have hsp : a.spot = none := by
      have := hc 0 0 (by omega) (by decide)
      simpa [Addr.add] using World.cell?_spot this
    obtain ⟨b, o, sp⟩ := a
    simp only at hsp
    subst hsp
    have e : ∀ j, (⟨b, o, none⟩ : Addr).add j = ⟨b, o + j, none⟩ := fun j => Addr.add_lit _ _ _
    exact ⟨b, o, rfl, by have := World.block_lt_of_cell? w _ c0; rw [e] at this; exact this, (congrArg w.cell? (e (k * 4 + 0))).symm.trans c0, (congrArg w.cell? (e (k * 4 + 1))).symm.trans c1, (congrArg w.cell? (e (k * 4 + 2))).symm.trans c2, (congrArg w.cell? (e (k * 4 + 3))).symm.trans c3⟩
set_option maxRecDepth 100000 in
theorem open_gdrow {fuel : Nat} {v : Value} {x : DataW H × List MemPlace} (h : DataW.trod enc Try.prog w base spare held fuel 23 [v] = some x) : ∃ A n c G, v = .slice A n c ∧ GdRow w w.heap.size A n G ∧ n ≤ c := by
  rcases open_cells (e := 82) Try.underlying23 Try.underlying82 (by kernel_rfl) (by kernel_rfl) (fun j f hj => by
    match j, hj with
    | 0, hj => injection hj with hj; subst hj; exact Try.underlying3
    | 1, hj => injection hj with hj; subst hj; exact Try.underlying3
    | j + 2, hj => cases hj) h with h0 | ⟨a, len, cap, hcs, hl, hc⟩
  · injection h0 with h0
    exact ⟨none, 0, 0, fun _ => ⟨0, 0⟩, h0, fun k hk => absurd hk (by omega), Nat.le_refl _⟩
  · injection hcs with hcs
    refine ⟨some a, len, cap, fun k => ⟨numAt w (a.add (k * 2 + 0)), numAt w (a.add (k * 2 + 1))⟩, hcs, fun k hk => ?_, hl⟩
    have c0 := hc k 0 hk (by decide)
    have c1 := hc k 1 hk (by decide)
    have hsp : a.spot = none := by
      have := hc 0 0 (by omega) (by decide)
      simpa [Addr.add] using World.cell?_spot this
    obtain ⟨b, o, sp⟩ := a
    simp only at hsp
    subst hsp
    have e : ∀ j, (⟨b, o, none⟩ : Addr).add j = ⟨b, o + j, none⟩ := fun j => Addr.add_lit _ _ _
    exact ⟨b, o, rfl, by have := World.block_lt_of_cell? w _ c0; rw [e] at this; exact this, (congrArg w.cell? (e (k * 2 + 0))).symm.trans c0, (congrArg w.cell? (e (k * 2 + 1))).symm.trans c1⟩
set_option maxRecDepth 100000 in
theorem open_introw {fuel : Nat} {v : Value} {x : DataW H × List MemPlace} (h : DataW.trod enc Try.prog w base spare held fuel 26 [v] = some x) : ∃ A n c X, v = .slice A n c ∧ IntRow w w.heap.size A n X ∧ n ≤ c := by
  rcases open_nums (e := 3) Try.underlying26 Try.underlying3 (by kernel_rfl) h with h0 | ⟨a, len, cap, hcs, hl, hc⟩
  · injection h0 with h0
    exact ⟨none, 0, 0, fun _ => 0, h0, fun k hk => absurd hk (by omega), Nat.le_refl _⟩
  · injection hcs with hcs
    refine ⟨some a, len, cap, fun k => numAt w (a.add k), hcs, fun k hk => ?_, hl⟩
    have c0 := hc k hk
    have hsp : a.spot = none := by
      have := hc 0 (by omega)
      simpa [Addr.add] using World.cell?_spot this
    obtain ⟨b, o, sp⟩ := a
    simp only at hsp
    subst hsp
    have e : ∀ j, (⟨b, o, none⟩ : Addr).add j = ⟨b, o + j, none⟩ := fun j => Addr.add_lit _ _ _
    exact ⟨b, o, rfl, by have := World.block_lt_of_cell? w _ c0; rw [e] at this; exact this, (congrArg w.cell? (e k)).symm.trans c0⟩
set_option maxRecDepth 100000 in
/-- a store by value -/
theorem open_store {r : Reach} {b0 : Nat} {v : Value} {d : DataW H} {p : List MemPlace} (hv : Value.okWide Try.prog w r b0 25 v) (h : DataW.Trod enc Try.prog w base spare held 25 v d p) :
    ∃ (st : St) (pA gA : Option Addr) (pc gc : Nat), v = stV pA st.n pc gA st.m gc st.lots ∧ PkRow w w.heap.size pA st.n st.P ∧ GdRow w w.heap.size gA st.m st.G ∧ st.n ≤ pc ∧ st.m ≤ gc := by
  obtain ⟨v0, v1, v2, y0, y1, y2, n, rfl, _, _, h0, h1, h2⟩ := open_agg3 Try.underlying25 (by kernel_rfl) (by kernel_rfl) hv h
  obtain ⟨pA, pn, pc, P, rfl, hp, hpc⟩ := open_pkrow h0
  obtain ⟨gA, gn, gc, G, rfl, hg, hgc⟩ := open_gdrow h1
  obtain ⟨z, hz, _⟩ := DataW.trod_int Try.underlying3 h2
  injection hz with hz
  subst hz
  exact ⟨⟨pn, P, gn, G, z⟩, pA, gA, pc, gc, rfl, hp, hg, hpc, hgc⟩
end
theorem own_knob : ownKnob Try.prog.godebug = none := by kernel_rfl
theorem laid_out : laidOutB Try.prog = true := by kernel_rfl
end Go.Proofs.Ytegmomappbehcaa
