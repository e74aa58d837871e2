/- What the laws that compare carry from call to call. -/
import Derived.Test.YtegmomappbehcaaLb
import Derived.Test.YtegmomappbehcaaAx
set_option linter.unusedSimpArgs false
set_option linter.unusedVariables false
namespace Go.Proofs.Ytegmomappbehcaa
open Go.RowKit Go.Shelf

theorem StRow.later2 {w w' : World} {st : St} {pA : Option Addr} {pc : Nat} {gA : Option Addr} {gc : Nat} (h : StRow w w.heap.size st pA pc gA gc) (hb : Below w.heap.size w w') : StRow w' w'.heap.size st pA pc gA gc :=
  ⟨Nat.le_refl _, (h.p.below hb).mono hb.size, (h.g.below hb).mono hb.size, h.n, h.m, h.pc, h.gc⟩
theorem StRow.of_own {w : World} {lo : Nat} {st : St} {pA : Option Addr} {pc : Nat} {gA : Option Addr} {gc : Nat} (hp : OwnPk w lo pA st.n st.P) (hg : OwnGd w lo gA st.m st.G) (hn : st.n ≤ 1000) (hm : st.m ≤ 1000) (h1 : st.n ≤ pc) (h2 : st.m ≤ gc) : StRow w w.heap.size st pA pc gA gc :=
  ⟨Nat.le_refl _, hp.row, hg.row, hn, hm, h1, h2⟩
/-- the three stores of a law, and its list and the copy of it -/
structure LawAt (w : World) (st : St) (b0 b1 b2 : Nat) (pA0 gA0 pA1 gA1 pA2 gA2 : Option Addr) (pc0 gc0 pc1 gc1 pc2 gc2 : Nat) : Prop where
  s0 : StAt w b0 pA0 st.n pc0 gA0 st.m gc0 st.lots
  s1 : StAt w b1 pA1 st.n pc1 gA1 st.m gc1 st.lots
  s2 : StAt w b2 pA2 st.n pc2 gA2 st.m gc2 st.lots
  r0 : StRow w w.heap.size st pA0 pc0 gA0 gc0
  r1 : StRow w w.heap.size st pA1 pc1 gA1 gc1
  r2 : StRow w w.heap.size st pA2 pc2 gA2 gc2
theorem LawAt.later {w w' : World} {st : St} {b0 b1 b2 : Nat} {pA0 gA0 pA1 gA1 pA2 gA2 : Option Addr} {pc0 gc0 pc1 gc1 pc2 gc2 : Nat} (h : LawAt w st b0 b1 b2 pA0 gA0 pA1 gA1 pA2 gA2 pc0 gc0 pc1 gc1 pc2 gc2) (hb : Below w.heap.size w w') : LawAt w' st b0 b1 b2 pA0 gA0 pA1 gA1 pA2 gA2 pc0 gc0 pc1 gc1 pc2 gc2 :=
  ⟨h.s0.later hb, h.s1.later hb, h.s2.later hb, h.r0.later2 hb, h.r1.later2 hb, h.r2.later2 hb⟩
theorem StRow.up {w : World} {B : Nat} {st : St} {pA : Option Addr} {pc : Nat} {gA : Option Addr} {gc : Nat} (h : StRow w B st pA pc gA gc) : StRow w w.heap.size st pA pc gA gc :=
  ⟨Nat.le_refl _, h.p.mono h.lt, h.g.mono h.lt, h.n, h.m, h.pc, h.gc⟩
theorem cell_set_same {w : World} {p : Addr} {u v : Value} (h : w.cell? p = some v) : (w.setCell p u).cell? p = some u := World.cell?_setCell_same' _ _ _ (by rw [h]; rfl)
theorem cell_set_is {w : World} {p : Addr} {u : Value} (h : (w.cell? p).isSome = true) : (w.setCell p u).cell? p = some u := World.cell?_setCell_same' _ _ _ h
theorem has_of {w : World} {a : Addr} {v : Value} (h : w.cell? a = some v) : (w.cell? a).isSome = true := by rw [h]; rfl
theorem has_set {w : World} {p a : Addr} {u : Value} (h : (w.cell? a).isSome = true) : ((w.setCell p u).cell? a).isSome = true := by
  by_cases e : p = a
  · subst e
    rw [World.cell?_setCell_same' _ _ _ h]; rfl
  · rw [World.cell?_setCell_other _ _ _ _ (by first | exact e | exact fun h => e h.symm)]; exact h
theorem has_alloc {w : World} {o : Obj} {a : Addr} (h : (w.cell? a).isSome = true) : ((w.alloc o).cell? a).isSome = true := by
  obtain ⟨v, hv⟩ := Option.isSome_iff_exists.1 h
  exact has_of (cell_alloc_of o hv)
theorem has_new {w : World} {cs : Array Value} {t : TypeId} {n i : Nat} (hn : n = w.heap.size) (hi : i < cs.size) : ((w.alloc (.cells cs t)).cell? ⟨n, i, none⟩).isSome = true :=
  has_of (cell_new_of hn (Array.getElem?_eq_getElem hi))
theorem cell_set_off {w : World} {b i j : Nat} {u v : Value} (hne : i ≠ j) (h : w.cell? ⟨b, i, none⟩ = some v) : (w.setCell ⟨b, j, none⟩ u).cell? ⟨b, i, none⟩ = some v := by
  rw [World.cell?_setCell_other _ _ _ _ (by intro e; injection e with _ e _; omega)]; exact h
theorem alln_int (X : Nat → Int) (n : Nat) : allN (fun k => decide (X k = X k)) n = true := allN_iff.2 (fun k _ => by simp)
theorem alln_sp (X : Nat → Int × Int) (n : Nat) : allN (fun k => decide (X k = X k)) n = true := allN_iff.2 (fun k _ => by simp)

theorem setCell_os (w : World) (a : Addr) (v : Value) : (w.setCell a v).os = w.os := rfl
theorem setCell_tape (w : World) (a : Addr) (v : Value) : (w.setCell a v).tape = w.tape := rfl
theorem setCell_output (w : World) (a : Addr) (v : Value) : (w.setCell a v).output = w.output := rfl
theorem alloc_os (w : World) (o : Obj) : (w.alloc o).os = w.os := rfl
theorem alloc_tape (w : World) (o : Obj) : (w.alloc o).tape = w.tape := rfl
theorem alloc_output (w : World) (o : Obj) : (w.alloc o).output = w.output := rfl
theorem setCell_size (w : World) (a : Addr) (v : Value) : (w.setCell a v).heap.size = w.heap.size := by simp [World.setCell]


/-- where a law stands behind 'own, mine, x := Own(s), Copy(l), theirs(s)', in whatever order the variables were laid -/
theorem law_close {st : St} {B ln : Nat} {pA gA lA pA1 gA1 pA2 gA2 mA : Option Addr} {pc gc pc1 gc1 pc2 gc2 lop lom lot b1 b2 : Nat} {X : Nat → Int} {W w1 wp wm wt wX : World}
    (HS : StRow W B st pA pc gA gc) (HL : IntRow W W.heap.size lA ln X) (HB1 : Below W.heap.size W w1) (h0 : W.heap.size < w1.heap.size) (hA : w1.cell? ⟨W.heap.size, 0, none⟩ = some (.slice pA st.n pc) ∧ w1.cell? ⟨W.heap.size, 1, none⟩ = some (.slice gA st.m gc) ∧ w1.cell? ⟨W.heap.size, 2, none⟩ = some (.int .i64 st.lots))
    (hP : Below w1.heap.size w1 wp) (hM : Below wp.heap.size wp wm) (hT : Below wm.heap.size wm wt)
    (hop : OwnPk wp lop pA1 st.n st.P) (hog : OwnGd wp lop gA1 st.m st.G) (hpc1 : st.n ≤ pc1) (hgc1 : st.m ≤ gc1) (hom : OwnInt wm lom mA ln X) (htp : OwnPk wt lot pA2 st.n st.P) (htg : OwnGd wt lot gA2 st.m st.G) (hpc2 : st.n ≤ pc2) (hgc2 : st.m ≤ gc2)
    (hos : wX.os = wt.os) (htape : wX.tape = wt.tape) (hout : wX.output = wt.output) (hsz : wt.heap.size ≤ wX.heap.size)
    (hF : ∀ i, i < wt.heap.size → i ≠ b1 → i ≠ b2 → wX.heap[i]? = wt.heap[i]?)
    (k1 : w1.heap.size ≤ b1 ∧ (b1 < lop ∨ wp.heap.size ≤ b1) ∧ (b1 < lom ∨ wm.heap.size ≤ b1) ∧ (b1 < lot ∨ wt.heap.size ≤ b1)) (k2 : w1.heap.size ≤ b2 ∧ (b2 < lop ∨ wp.heap.size ≤ b2) ∧ (b2 < lom ∨ wm.heap.size ≤ b2) ∧ (b2 < lot ∨ wt.heap.size ≤ b2))
    (s1 : StAt wX b1 pA1 st.n pc1 gA1 st.m gc1 st.lots) (s2 : StAt wX b2 pA2 st.n pc2 gA2 st.m gc2 st.lots) :
    Hid (LawAt wX st W.heap.size b1 b2 pA gA pA1 gA1 pA2 gA2 pc gc pc1 gc1 pc2 gc2) ∧ Hid (IntRow wX wX.heap.size lA ln X) ∧ Hid (IntRow wX wX.heap.size mA ln X) ∧ Hid (Below W.heap.size W wX) := by
  have z1 := HB1.size
  have z2 := hP.size
  have z3 := hM.size
  have z4 := hT.size
  have eT : ∀ i, i < wm.heap.size → i ≠ b1 → i ≠ b2 → wX.heap[i]? = wm.heap[i]? := fun i hi h1 h2 => (hF i (by omega) h1 h2).trans (hT.block i hi)
  have eM : ∀ i, i < wp.heap.size → i ≠ b1 → i ≠ b2 → wX.heap[i]? = wp.heap[i]? := fun i hi h1 h2 => (eT i (by omega) h1 h2).trans (hM.block i hi)
  have eP : ∀ i, i < w1.heap.size → wX.heap[i]? = w1.heap[i]? := fun i hi => (eM i (by omega) (by omega) (by omega)).trans (hP.block i hi)
  have BX : Below W.heap.size W wX := HB1.trans ⟨hos.trans (hT.os.trans (hM.os.trans hP.os)), htape.trans (hT.tape.trans (hM.tape.trans hP.tape)), hout.trans (hT.output.trans (hM.output.trans hP.output)), by omega, fun i hi => eP i (by omega)⟩
  have hn := HS.n
  have hm := HS.m
  refine ⟨Lib.hid ⟨⟨cell_same (eP _ h0) hA.1, cell_same (eP _ h0) hA.2.1, cell_same (eP _ h0) hA.2.2⟩, s1, s2, (HS.later (BX.mono HS.lt)).up,
    StRow.of_own (hop.keep (fun b hl hb => eM b hb (by omega) (by omega))) (hog.keep (fun b hl hb => eM b hb (by omega) (by omega))) hn hm hpc1 hgc1,
    StRow.of_own (htp.keep (fun b hl hb => hF b hb (by omega) (by omega))) (htg.keep (fun b hl hb => hF b hb (by omega) (by omega))) hn hm hpc2 hgc2⟩,
    Lib.hid (HL.later BX), Lib.hid (hom.keep (fun b hl hb => eT b hb (by omega) (by omega))).row, Lib.hid BX⟩
end Go.Proofs.Ytegmomappbehcaa
