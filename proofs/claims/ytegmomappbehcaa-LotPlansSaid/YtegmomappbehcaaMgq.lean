/- The law LotPlans, walked. -/
import Derived.Test.YtegmomappbehcaaLc
import Derived.Test.YtegmomappbehcaaPlm
import Derived.Test.YtegmomappbehcaaWw
set_option linter.unusedSimpArgs false
set_option linter.unusedVariables false
namespace Go.Proofs.Ytegmomappbehcaa
open Go.RowKit Go.Shelf

/-! ### A function cut at a region of its own spine -/
def fromReg (n : Nat) : Code → Code
  | .seq (.region m ops b) y => match Nat.beq m n with
    | true => .seq (.region m ops b) y
    | false => fromReg n y
  | .seq _ y => fromReg n y
  | c => c
def hdOf : Code → Code
  | .seq a _ => a
  | c => c
def tlOf : Code → Code
  | .seq _ b => b
  | c => c

/-- what LotPlans carries -/
structure PlansAt (W w : World) (st : St) (b1 b2 : Nat) (pA gA pA1 gA1 pA2 gA2 : Option Addr) (pc gc pc1 gc1 pc2 gc2 : Nat) (A qA lA mA : Option Addr) (m ln : Nat) (L : Nat → Nat × (Nat → Int)) (X : Nat → Int) : Prop where
  q : LawAt w st W.heap.size b1 b2 pA gA pA1 gA1 pA2 gA2 pc gc pc1 gc1 pc2 gc2
  p0 : PlanRow w w.heap.size A m L
  p1 : PlanRow w w.heap.size qA m L
  l0 : IntRow w w.heap.size lA ln X
  l1 : IntRow w w.heap.size mA ln X
  b : Below W.heap.size W w
theorem PlansAt.later {W w w' : World} {st : St} {b1 b2 : Nat} {pA gA pA1 gA1 pA2 gA2 : Option Addr} {pc gc pc1 gc1 pc2 gc2 : Nat} {A qA lA mA : Option Addr} {m ln : Nat} {L : Nat → Nat × (Nat → Int)} {X : Nat → Int} (h : PlansAt W w st b1 b2 pA gA pA1 gA1 pA2 gA2 pc gc pc1 gc1 pc2 gc2 A qA lA mA m ln L X) (hb : Below w.heap.size w w') : PlansAt W w' st b1 b2 pA gA pA1 gA1 pA2 gA2 pc gc pc1 gc1 pc2 gc2 A qA lA mA m ln L X :=
  ⟨h.q.later hb, h.p0.later hb, h.p1.later hb, h.l0.later hb, h.l1.later hb, h.b.trans (hb.mono h.b.size)⟩
/-- where the law stands behind its copies, in whatever order they were made -/
theorem plans_close {st : St} {B m ln : Nat} {pA gA A lA pA1 gA1 pA2 gA2 qA mA : Option Addr} {pc gc pc1 gc1 pc2 gc2 lop loq lom lot b1 b2 : Nat} {L : Nat → Nat × (Nat → Int)} {X : Nat → Int} {W w1 wp wn wm wt wX : World}
    (HS : StRow W B st pA pc gA gc) (HL : IntRow W W.heap.size lA ln X) (HP : PlanRow W W.heap.size A m L) (HB1 : Below W.heap.size W w1) (h0 : W.heap.size < w1.heap.size) (hA : w1.cell? ⟨W.heap.size, 0, none⟩ = some (.slice pA st.n pc) ∧ w1.cell? ⟨W.heap.size, 1, none⟩ = some (.slice gA st.m gc) ∧ w1.cell? ⟨W.heap.size, 2, none⟩ = some (.int .i64 st.lots))
    (hP : Below w1.heap.size w1 wp) (hN : Below wp.heap.size wp wn) (hM : Below wn.heap.size wn wm) (hT : Below wm.heap.size wm wt)
    (hop : OwnPk wp lop pA1 st.n st.P) (hog : OwnGd wp lop gA1 st.m st.G) (hpc1 : st.n ≤ pc1) (hgc1 : st.m ≤ gc1) (hoq : PlanOwn wn loq qA m L) (hom : OwnInt wm lom mA ln X) (htp : OwnPk wt lot pA2 st.n st.P) (htg : OwnGd wt lot gA2 st.m st.G) (hpc2 : st.n ≤ pc2) (hgc2 : st.m ≤ gc2)
    (hos : wX.os = wt.os) (htape : wX.tape = wt.tape) (hout : wX.output = wt.output) (hsz : wt.heap.size ≤ wX.heap.size)
    (hF : ∀ i, i < wt.heap.size → i ≠ b1 → i ≠ b2 → wX.heap[i]? = wt.heap[i]?)
    (k1 : w1.heap.size ≤ b1 ∧ (b1 < lop ∨ wp.heap.size ≤ b1) ∧ (b1 < loq ∨ wn.heap.size ≤ b1) ∧ (b1 < lom ∨ wm.heap.size ≤ b1) ∧ (b1 < lot ∨ wt.heap.size ≤ b1)) (k2 : w1.heap.size ≤ b2 ∧ (b2 < lop ∨ wp.heap.size ≤ b2) ∧ (b2 < loq ∨ wn.heap.size ≤ b2) ∧ (b2 < lom ∨ wm.heap.size ≤ b2) ∧ (b2 < lot ∨ wt.heap.size ≤ b2))
    (s1 : StAt wX b1 pA1 st.n pc1 gA1 st.m gc1 st.lots) (s2 : StAt wX b2 pA2 st.n pc2 gA2 st.m gc2 st.lots) :
    Hid (PlansAt W wX st b1 b2 pA gA pA1 gA1 pA2 gA2 pc gc pc1 gc1 pc2 gc2 A qA lA mA m ln L X) := by
  have zn := hN.size
  have zm := hM.size
  have zt := hT.size
  have h := law_close HS HL HB1 h0 hA hP (hN.trans (hM.mono zn)) hT hop hog hpc1 hgc1 hom htp htg hpc2 hgc2 hos htape hout hsz hF ⟨k1.1, k1.2.1, k1.2.2.2.1, k1.2.2.2.2⟩ ⟨k2.1, k2.2.1, k2.2.2.2.1, k2.2.2.2.2⟩ s1 s2
  refine Lib.hid ⟨h.1.out, HP.later h.2.2.2.out, (hoq.keep (w' := wX) (by omega) (fun b hl hb => ?_)).row, h.2.1.out, h.2.2.1.out, h.2.2.2.out⟩
  exact (hF b (by omega) (by omega) (by omega)).trans ((hT.block b (by omega)).trans (hM.block b hb))

set_option maxRecDepth 100000 in
set_option maxHeartbeats 0 in
/-- the copies, in whatever order they are made -/
theorem plans_reg (st : St) (B : Nat) (pA gA : Option Addr) (pc gc : Nat) (A : Option Addr) (m c : Nat) (L : Nat → Nat × (Nat → Int)) (lA : Option Addr) (ln lc : Nat) (X : Nat → Int) (W w1 : World) (HS : Hid (StRow W B st pA pc gA gc)) (hB : B ≤ W.heap.size) (HL : Hid (IntRow W W.heap.size lA ln X)) (HPL : Hid (PlanRow W W.heap.size A m L)) (HLEN : Hid (∀ k, k < m → (L k).1 ≤ 1000)) (h1 : st.n ≤ 6) (h2 : st.m ≤ 6) (h3 : ln ≤ 8) (h4 : m ≤ 5)
    (HB1 : Hid (Below W.heap.size W w1)) (hs1 : W.heap.size + 1 ≤ w1.heap.size) (HA : Hid (w1.cell? ⟨W.heap.size, 0, none⟩ = some (.slice pA st.n pc) ∧ w1.cell? ⟨W.heap.size, 1, none⟩ = some (.slice gA st.m gc) ∧ w1.cell? ⟨W.heap.size, 2, none⟩ = some (.int .i64 st.lots)))
    {u0 u4 u5 u6 u7 u8 u9 u10 u11 u12 u13 u14 u15 u16 u17 u18 u19 u20 u21 u22 u23 u24 u25 u26 u27 u28 u29 u30 u31 u32 u33 u34 u35 u36 u37 u38 u39 u40 u41 u42 u43 u44 u45 : Value} (rest : List Value) (K : Act → World → Prop) (Q : Exit → Act → World → Prop)
    (hK : ∀ (b1 b2 : Nat) (pA1 gA1 pA2 gA2 : Option Addr) (pc1 gc1 pc2 gc2 : Nat) (qA : Option Addr) (qc : Nat) (mA : Option Addr) (mc : Nat) (v38 v39 v40 v41 v42 v43 v44 v45 : Value) (wx : World),
      (Hid (PlansAt W wx st b1 b2 pA gA pA1 gA1 pA2 gA2 pc gc pc1 gc1 pc2 gc2 A qA lA mA m ln L X) ∧ ln ≤ mc) → K ⟨(List.toArray (u0 :: (.slice A m c) :: (.slice lA ln lc) :: (.pointer (some ⟨W.heap.size, 0, none⟩)) :: u4 :: u5 :: u6 :: (.pointer (some ⟨b1, 0, none⟩)) :: (.slice qA m qc) :: (.slice mA ln mc) :: (.pointer (some ⟨b2, 0, none⟩)) :: u11 :: u12 :: u13 :: u14 :: u15 :: u16 :: u17 :: u18 :: u19 :: u20 :: u21 :: u22 :: u23 :: u24 :: u25 :: u26 :: u27 :: u28 :: u29 :: u30 :: u31 :: u32 :: u33 :: u34 :: u35 :: u36 :: u37 :: v38 :: v39 :: v40 :: v41 :: v42 :: v43 :: v44 :: v45 :: rest)), []⟩ wx) :
    Code.wp Try.prog (hdOf (fromReg 3 (Try.f12.body.getD .skip))) (Exit.then K Q) ⟨(List.toArray (u0 :: (.slice A m c) :: (.slice lA ln lc) :: (.pointer (some ⟨W.heap.size, 0, none⟩)) :: u4 :: u5 :: u6 :: u7 :: u8 :: u9 :: u10 :: u11 :: u12 :: u13 :: u14 :: u15 :: u16 :: u17 :: u18 :: u19 :: u20 :: u21 :: u22 :: u23 :: u24 :: u25 :: u26 :: u27 :: u28 :: u29 :: u30 :: u31 :: u32 :: u33 :: u34 :: u35 :: u36 :: u37 :: u38 :: u39 :: u40 :: u41 :: u42 :: u43 :: u44 :: u45 :: rest)), []⟩ w1 := by
  conv => arg 2; whnf
  obtain ⟨a0, a1, a2⟩ := HA.out
  go_region_held3 (fun w' => w'.cell? ⟨W.heap.size, 0, none⟩ = some (.slice pA st.n pc) ∧ w'.cell? ⟨W.heap.size, 1, none⟩ = some (.slice gA st.m gc) ∧ w'.cell? ⟨W.heap.size, 2, none⟩ = some (.int .i64 st.lots)) ((go_split_ands; (repeat' refine And.intro ?_ ?_) <;> (repeat (first | (with_reducible assumption) | (simp; done) | (with_reducible refine cell_drew_of ?_) | (with_reducible refine cell_drewN_of ?_) | (with_reducible refine cell_below_of (by with_reducible assumption) ?_) | ((with_reducible refine cell_new_of ?_ ?_) <;> (first | (with_reducible rfl) | (simp; done))) | ((with_reducible refine fro_new_of ?_) <;> (first | (with_reducible rfl) | (simp; done))) | (with_reducible refine cell_alloc_of _ ?_) | (with_reducible refine cell_set_of _ (by (first | exact Nat.le_refl _ | omega | (simp; done) | (simp; omega))) ?_) | (with_reducible refine fro_drew_of ?_) | (with_reducible refine fro_drewN_of ?_) | (with_reducible refine fro_below_of (by with_reducible assumption) (by (first | exact Nat.le_refl _ | omega | (simp; done) | (simp; omega))) ?_) | (with_reducible refine fro_alloc_of _ (by (first | exact Nat.le_refl _ | omega | (simp; done) | (simp; omega))) ?_) | (with_reducible refine fro_set_of _ ?_))))) (first | (go_at_call 18; refine (own_any st B pA gA pc gc _ (HS.out.later ((show Below W.heap.size W _ from HB1.out.trans ((show Below w1.heap.size w1 _ from (by repeat (first | (with_reducible exact Below.refl _ _) | (with_reducible refine Below.drew ?_) | (with_reducible refine below_drewN ?_ _) | ((with_reducible refine below_alloc ?_ ?_ _); · (first | exact Nat.le_refl _ | omega | (simp; done) | (simp; omega) | (simp at *; omega))) | ((with_reducible refine below_set ?_ ?_ _); · (first | exact Nat.le_refl _ | omega | (simp; done) | (simp; omega) | (simp at *; omega))) | ((with_reducible refine below_via (by with_reducible assumption) ?_ ?_); · (first | exact Nat.le_refl _ | omega | (simp; done) | (simp; omega) | (simp at *; omega)))))).mono (by omega))).mono hB))).mono ?_; rintro e wp ⟨hbp, pA1, pc1, gA1, gc1, rfl, hop, hog, hpc1, hgc1, _⟩; have hhP := Lib.hid (show Below w1.heap.size w1 wp from (by repeat (first | (with_reducible exact Below.refl _ _) | (with_reducible assumption) | (with_reducible refine Below.drew ?_) | ((with_reducible refine below_alloc ?_ ?_ _); (· (first | exact Nat.le_refl _ | omega | (dsimp only; omega) | (simp only [World.size_alloc, World.size_drew, World.heap_drewN]; omega) | (simp; omega)))) | ((with_reducible refine below_set ?_ ?_ _); (· (first | exact Nat.le_refl _ | omega | (dsimp only; omega) | (simp only [World.size_alloc, World.size_drew, World.heap_drewN]; omega) | (simp; omega)))) | ((with_reducible refine below_via (by with_reducible assumption) ?_ ?_); (· (first | exact Nat.le_refl _ | omega | (dsimp only; omega) | (simp only [World.size_alloc, World.size_drew, World.heap_drewN]; omega) | (simp; omega))))))); have hzp := hbp.size; (try simp only [World.size_drew, World.heap_drewN, World.size_alloc] at hzp);  (try (refine lay_in (A := ((wp.cell? ⟨w1.heap.size, 0, none⟩ = some (.slice none 0 0) ∧ wp.cell? ⟨w1.heap.size, 1, none⟩ = some (.slice none 0 0) ∧ wp.cell? ⟨w1.heap.size, 2, none⟩ = some (.int .i64 0)) ∧ wp.frozen? ⟨w1.heap.size, 0, none⟩ = false ∧ wp.frozen? ⟨w1.heap.size, 1, none⟩ = false ∧ wp.frozen? ⟨w1.heap.size, 2, none⟩ = false)) ?_ ?_; (· ((go_split_ands; (repeat' refine And.intro ?_ ?_) <;> (repeat (first | (with_reducible assumption) | (simp; done) | (with_reducible refine cell_drew_of ?_) | (with_reducible refine cell_drewN_of ?_) | (with_reducible refine cell_below_of (by with_reducible assumption) ?_) | ((with_reducible refine cell_new_of ?_ ?_) <;> (first | (with_reducible rfl) | (simp; done))) | ((with_reducible refine fro_new_of ?_) <;> (first | (with_reducible rfl) | (simp; done))) | (with_reducible refine cell_alloc_of _ ?_) | (with_reducible refine cell_set_of _ (by (first | exact Nat.le_refl _ | omega | (simp; done) | (simp; omega))) ?_) | (with_reducible refine fro_drew_of ?_) | (with_reducible refine fro_drewN_of ?_) | (with_reducible refine fro_below_of (by with_reducible assumption) (by (first | exact Nat.le_refl _ | omega | (simp; done) | (simp; omega))) ?_) | (with_reducible refine fro_alloc_of _ (by (first | exact Nat.le_refl _ | omega | (simp; done) | (simp; omega))) ?_) | (with_reducible refine fro_set_of _ ?_)))))); rintro ⟨⟨_, _, _⟩, _, _, _⟩)); (try (refine lay_in (A := ((wp.cell? ⟨w1.heap.size + 1, 0, none⟩ = some (.slice none 0 0) ∧ wp.cell? ⟨w1.heap.size + 1, 1, none⟩ = some (.slice none 0 0) ∧ wp.cell? ⟨w1.heap.size + 1, 2, none⟩ = some (.int .i64 0)) ∧ wp.frozen? ⟨w1.heap.size + 1, 0, none⟩ = false ∧ wp.frozen? ⟨w1.heap.size + 1, 1, none⟩ = false ∧ wp.frozen? ⟨w1.heap.size + 1, 2, none⟩ = false)) ?_ ?_; (· ((go_split_ands; (repeat' refine And.intro ?_ ?_) <;> (repeat (first | (with_reducible assumption) | (simp; done) | (with_reducible refine cell_drew_of ?_) | (with_reducible refine cell_drewN_of ?_) | (with_reducible refine cell_below_of (by with_reducible assumption) ?_) | ((with_reducible refine cell_new_of ?_ ?_) <;> (first | (with_reducible rfl) | (simp; done))) | ((with_reducible refine fro_new_of ?_) <;> (first | (with_reducible rfl) | (simp; done))) | (with_reducible refine cell_alloc_of _ ?_) | (with_reducible refine cell_set_of _ (by (first | exact Nat.le_refl _ | omega | (simp; done) | (simp; omega))) ?_) | (with_reducible refine fro_drew_of ?_) | (with_reducible refine fro_drewN_of ?_) | (with_reducible refine fro_below_of (by with_reducible assumption) (by (first | exact Nat.le_refl _ | omega | (simp; done) | (simp; omega))) ?_) | (with_reducible refine fro_alloc_of _ (by (first | exact Nat.le_refl _ | omega | (simp; done) | (simp; omega))) ?_) | (with_reducible refine fro_set_of _ ?_)))))); rintro ⟨⟨_, _, _⟩, _, _, _⟩))) | (go_at_call 60; refine (copyrows_any A m c L _ (HPL.out.later (show Below W.heap.size W _ from HB1.out.trans ((show Below w1.heap.size w1 _ from (by repeat (first | (with_reducible exact Below.refl _ _) | (with_reducible refine Below.drew ?_) | (with_reducible refine below_drewN ?_ _) | ((with_reducible refine below_alloc ?_ ?_ _); · (first | exact Nat.le_refl _ | omega | (simp; done) | (simp; omega) | (simp at *; omega))) | ((with_reducible refine below_set ?_ ?_ _); · (first | exact Nat.le_refl _ | omega | (simp; done) | (simp; omega) | (simp at *; omega))) | ((with_reducible refine below_via (by with_reducible assumption) ?_ ?_); · (first | exact Nat.le_refl _ | omega | (simp; done) | (simp; omega) | (simp at *; omega)))))).mono (by omega)))) (by omega) HLEN.out).mono ?_; rintro e wn ⟨hbn, qA, qc, rfl, hqo, hqc⟩; have hhN := Lib.hid (show Below wp.heap.size wp wn from (by repeat (first | (with_reducible exact Below.refl _ _) | (with_reducible assumption) | (with_reducible refine Below.drew ?_) | ((with_reducible refine below_alloc ?_ ?_ _); (· (first | exact Nat.le_refl _ | omega | (dsimp only; omega) | (simp only [World.size_alloc, World.size_drew, World.heap_drewN]; omega) | (simp; omega)))) | ((with_reducible refine below_set ?_ ?_ _); (· (first | exact Nat.le_refl _ | omega | (dsimp only; omega) | (simp only [World.size_alloc, World.size_drew, World.heap_drewN]; omega) | (simp; omega)))) | ((with_reducible refine below_via (by with_reducible assumption) ?_ ?_); (· (first | exact Nat.le_refl _ | omega | (dsimp only; omega) | (simp only [World.size_alloc, World.size_drew, World.heap_drewN]; omega) | (simp; omega))))))); have hzn := hbn.size; (try simp only [World.size_drew, World.heap_drewN, World.size_alloc] at hzn);  (try (refine lay_in (A := ((wn.cell? ⟨w1.heap.size, 0, none⟩ = some (.slice none 0 0) ∧ wn.cell? ⟨w1.heap.size, 1, none⟩ = some (.slice none 0 0) ∧ wn.cell? ⟨w1.heap.size, 2, none⟩ = some (.int .i64 0)) ∧ wn.frozen? ⟨w1.heap.size, 0, none⟩ = false ∧ wn.frozen? ⟨w1.heap.size, 1, none⟩ = false ∧ wn.frozen? ⟨w1.heap.size, 2, none⟩ = false)) ?_ ?_; (· ((go_split_ands; (repeat' refine And.intro ?_ ?_) <;> (repeat (first | (with_reducible assumption) | (simp; done) | (with_reducible refine cell_drew_of ?_) | (with_reducible refine cell_drewN_of ?_) | (with_reducible refine cell_below_of (by with_reducible assumption) ?_) | ((with_reducible refine cell_new_of ?_ ?_) <;> (first | (with_reducible rfl) | (simp; done))) | ((with_reducible refine fro_new_of ?_) <;> (first | (with_reducible rfl) | (simp; done))) | (with_reducible refine cell_alloc_of _ ?_) | (with_reducible refine cell_set_of _ (by (first | exact Nat.le_refl _ | omega | (simp; done) | (simp; omega))) ?_) | (with_reducible refine fro_drew_of ?_) | (with_reducible refine fro_drewN_of ?_) | (with_reducible refine fro_below_of (by with_reducible assumption) (by (first | exact Nat.le_refl _ | omega | (simp; done) | (simp; omega))) ?_) | (with_reducible refine fro_alloc_of _ (by (first | exact Nat.le_refl _ | omega | (simp; done) | (simp; omega))) ?_) | (with_reducible refine fro_set_of _ ?_)))))); rintro ⟨⟨_, _, _⟩, _, _, _⟩)); (try (refine lay_in (A := ((wn.cell? ⟨w1.heap.size + 1, 0, none⟩ = some (.slice none 0 0) ∧ wn.cell? ⟨w1.heap.size + 1, 1, none⟩ = some (.slice none 0 0) ∧ wn.cell? ⟨w1.heap.size + 1, 2, none⟩ = some (.int .i64 0)) ∧ wn.frozen? ⟨w1.heap.size + 1, 0, none⟩ = false ∧ wn.frozen? ⟨w1.heap.size + 1, 1, none⟩ = false ∧ wn.frozen? ⟨w1.heap.size + 1, 2, none⟩ = false)) ?_ ?_; (· ((go_split_ands; (repeat' refine And.intro ?_ ?_) <;> (repeat (first | (with_reducible assumption) | (simp; done) | (with_reducible refine cell_drew_of ?_) | (with_reducible refine cell_drewN_of ?_) | (with_reducible refine cell_below_of (by with_reducible assumption) ?_) | ((with_reducible refine cell_new_of ?_ ?_) <;> (first | (with_reducible rfl) | (simp; done))) | ((with_reducible refine fro_new_of ?_) <;> (first | (with_reducible rfl) | (simp; done))) | (with_reducible refine cell_alloc_of _ ?_) | (with_reducible refine cell_set_of _ (by (first | exact Nat.le_refl _ | omega | (simp; done) | (simp; omega))) ?_) | (with_reducible refine fro_drew_of ?_) | (with_reducible refine fro_drewN_of ?_) | (with_reducible refine fro_below_of (by with_reducible assumption) (by (first | exact Nat.le_refl _ | omega | (simp; done) | (simp; omega))) ?_) | (with_reducible refine fro_alloc_of _ (by (first | exact Nat.le_refl _ | omega | (simp; done) | (simp; omega))) ?_) | (with_reducible refine fro_set_of _ ?_)))))); rintro ⟨⟨_, _, _⟩, _, _, _⟩)); (try (refine lay_in (A := ((wn.cell? ⟨wp.heap.size, 0, none⟩ = some (.slice none 0 0) ∧ wn.cell? ⟨wp.heap.size, 1, none⟩ = some (.slice none 0 0) ∧ wn.cell? ⟨wp.heap.size, 2, none⟩ = some (.int .i64 0)) ∧ wn.frozen? ⟨wp.heap.size, 0, none⟩ = false ∧ wn.frozen? ⟨wp.heap.size, 1, none⟩ = false ∧ wn.frozen? ⟨wp.heap.size, 2, none⟩ = false)) ?_ ?_; (· ((go_split_ands; (repeat' refine And.intro ?_ ?_) <;> (repeat (first | (with_reducible assumption) | (simp; done) | (with_reducible refine cell_drew_of ?_) | (with_reducible refine cell_drewN_of ?_) | (with_reducible refine cell_below_of (by with_reducible assumption) ?_) | ((with_reducible refine cell_new_of ?_ ?_) <;> (first | (with_reducible rfl) | (simp; done))) | ((with_reducible refine fro_new_of ?_) <;> (first | (with_reducible rfl) | (simp; done))) | (with_reducible refine cell_alloc_of _ ?_) | (with_reducible refine cell_set_of _ (by (first | exact Nat.le_refl _ | omega | (simp; done) | (simp; omega))) ?_) | (with_reducible refine fro_drew_of ?_) | (with_reducible refine fro_drewN_of ?_) | (with_reducible refine fro_below_of (by with_reducible assumption) (by (first | exact Nat.le_refl _ | omega | (simp; done) | (simp; omega))) ?_) | (with_reducible refine fro_alloc_of _ (by (first | exact Nat.le_refl _ | omega | (simp; done) | (simp; omega))) ?_) | (with_reducible refine fro_set_of _ ?_)))))); rintro ⟨⟨_, _, _⟩, _, _, _⟩)); (try (refine lay_in (A := ((wn.cell? ⟨wp.heap.size + 1, 0, none⟩ = some (.slice none 0 0) ∧ wn.cell? ⟨wp.heap.size + 1, 1, none⟩ = some (.slice none 0 0) ∧ wn.cell? ⟨wp.heap.size + 1, 2, none⟩ = some (.int .i64 0)) ∧ wn.frozen? ⟨wp.heap.size + 1, 0, none⟩ = false ∧ wn.frozen? ⟨wp.heap.size + 1, 1, none⟩ = false ∧ wn.frozen? ⟨wp.heap.size + 1, 2, none⟩ = false)) ?_ ?_; (· ((go_split_ands; (repeat' refine And.intro ?_ ?_) <;> (repeat (first | (with_reducible assumption) | (simp; done) | (with_reducible refine cell_drew_of ?_) | (with_reducible refine cell_drewN_of ?_) | (with_reducible refine cell_below_of (by with_reducible assumption) ?_) | ((with_reducible refine cell_new_of ?_ ?_) <;> (first | (with_reducible rfl) | (simp; done))) | ((with_reducible refine fro_new_of ?_) <;> (first | (with_reducible rfl) | (simp; done))) | (with_reducible refine cell_alloc_of _ ?_) | (with_reducible refine cell_set_of _ (by (first | exact Nat.le_refl _ | omega | (simp; done) | (simp; omega))) ?_) | (with_reducible refine fro_drew_of ?_) | (with_reducible refine fro_drewN_of ?_) | (with_reducible refine fro_below_of (by with_reducible assumption) (by (first | exact Nat.le_refl _ | omega | (simp; done) | (simp; omega))) ?_) | (with_reducible refine fro_alloc_of _ (by (first | exact Nat.le_refl _ | omega | (simp; done) | (simp; omega))) ?_) | (with_reducible refine fro_set_of _ ?_)))))); rintro ⟨⟨_, _, _⟩, _, _, _⟩))) | (go_at_call 19; refine (copy_int lA ln lc X _ (HL.out.later (show Below W.heap.size W _ from HB1.out.trans ((show Below w1.heap.size w1 _ from (by repeat (first | (with_reducible exact Below.refl _ _) | (with_reducible refine Below.drew ?_) | (with_reducible refine below_drewN ?_ _) | ((with_reducible refine below_alloc ?_ ?_ _); · (first | exact Nat.le_refl _ | omega | (simp; done) | (simp; omega) | (simp at *; omega))) | ((with_reducible refine below_set ?_ ?_ _); · (first | exact Nat.le_refl _ | omega | (simp; done) | (simp; omega) | (simp at *; omega))) | ((with_reducible refine below_via (by with_reducible assumption) ?_ ?_); · (first | exact Nat.le_refl _ | omega | (simp; done) | (simp; omega) | (simp at *; omega)))))).mono (by omega)))) (by omega)).mono ?_; rintro e wm ⟨hbm, mA, mc, rfl, hom, hmc⟩; have hhM := Lib.hid (show Below wn.heap.size wn wm from (by repeat (first | (with_reducible exact Below.refl _ _) | (with_reducible assumption) | (with_reducible refine Below.drew ?_) | ((with_reducible refine below_alloc ?_ ?_ _); (· (first | exact Nat.le_refl _ | omega | (dsimp only; omega) | (simp only [World.size_alloc, World.size_drew, World.heap_drewN]; omega) | (simp; omega)))) | ((with_reducible refine below_set ?_ ?_ _); (· (first | exact Nat.le_refl _ | omega | (dsimp only; omega) | (simp only [World.size_alloc, World.size_drew, World.heap_drewN]; omega) | (simp; omega)))) | ((with_reducible refine below_via (by with_reducible assumption) ?_ ?_); (· (first | exact Nat.le_refl _ | omega | (dsimp only; omega) | (simp only [World.size_alloc, World.size_drew, World.heap_drewN]; omega) | (simp; omega))))))); have hzm := hbm.size; (try simp only [World.size_drew, World.heap_drewN, World.size_alloc] at hzm);  (try (refine lay_in (A := ((wm.cell? ⟨w1.heap.size, 0, none⟩ = some (.slice none 0 0) ∧ wm.cell? ⟨w1.heap.size, 1, none⟩ = some (.slice none 0 0) ∧ wm.cell? ⟨w1.heap.size, 2, none⟩ = some (.int .i64 0)) ∧ wm.frozen? ⟨w1.heap.size, 0, none⟩ = false ∧ wm.frozen? ⟨w1.heap.size, 1, none⟩ = false ∧ wm.frozen? ⟨w1.heap.size, 2, none⟩ = false)) ?_ ?_; (· ((go_split_ands; (repeat' refine And.intro ?_ ?_) <;> (repeat (first | (with_reducible assumption) | (simp; done) | (with_reducible refine cell_drew_of ?_) | (with_reducible refine cell_drewN_of ?_) | (with_reducible refine cell_below_of (by with_reducible assumption) ?_) | ((with_reducible refine cell_new_of ?_ ?_) <;> (first | (with_reducible rfl) | (simp; done))) | ((with_reducible refine fro_new_of ?_) <;> (first | (with_reducible rfl) | (simp; done))) | (with_reducible refine cell_alloc_of _ ?_) | (with_reducible refine cell_set_of _ (by (first | exact Nat.le_refl _ | omega | (simp; done) | (simp; omega))) ?_) | (with_reducible refine fro_drew_of ?_) | (with_reducible refine fro_drewN_of ?_) | (with_reducible refine fro_below_of (by with_reducible assumption) (by (first | exact Nat.le_refl _ | omega | (simp; done) | (simp; omega))) ?_) | (with_reducible refine fro_alloc_of _ (by (first | exact Nat.le_refl _ | omega | (simp; done) | (simp; omega))) ?_) | (with_reducible refine fro_set_of _ ?_)))))); rintro ⟨⟨_, _, _⟩, _, _, _⟩)); (try (refine lay_in (A := ((wm.cell? ⟨w1.heap.size + 1, 0, none⟩ = some (.slice none 0 0) ∧ wm.cell? ⟨w1.heap.size + 1, 1, none⟩ = some (.slice none 0 0) ∧ wm.cell? ⟨w1.heap.size + 1, 2, none⟩ = some (.int .i64 0)) ∧ wm.frozen? ⟨w1.heap.size + 1, 0, none⟩ = false ∧ wm.frozen? ⟨w1.heap.size + 1, 1, none⟩ = false ∧ wm.frozen? ⟨w1.heap.size + 1, 2, none⟩ = false)) ?_ ?_; (· ((go_split_ands; (repeat' refine And.intro ?_ ?_) <;> (repeat (first | (with_reducible assumption) | (simp; done) | (with_reducible refine cell_drew_of ?_) | (with_reducible refine cell_drewN_of ?_) | (with_reducible refine cell_below_of (by with_reducible assumption) ?_) | ((with_reducible refine cell_new_of ?_ ?_) <;> (first | (with_reducible rfl) | (simp; done))) | ((with_reducible refine fro_new_of ?_) <;> (first | (with_reducible rfl) | (simp; done))) | (with_reducible refine cell_alloc_of _ ?_) | (with_reducible refine cell_set_of _ (by (first | exact Nat.le_refl _ | omega | (simp; done) | (simp; omega))) ?_) | (with_reducible refine fro_drew_of ?_) | (with_reducible refine fro_drewN_of ?_) | (with_reducible refine fro_below_of (by with_reducible assumption) (by (first | exact Nat.le_refl _ | omega | (simp; done) | (simp; omega))) ?_) | (with_reducible refine fro_alloc_of _ (by (first | exact Nat.le_refl _ | omega | (simp; done) | (simp; omega))) ?_) | (with_reducible refine fro_set_of _ ?_)))))); rintro ⟨⟨_, _, _⟩, _, _, _⟩)); (try (refine lay_in (A := ((wm.cell? ⟨wp.heap.size, 0, none⟩ = some (.slice none 0 0) ∧ wm.cell? ⟨wp.heap.size, 1, none⟩ = some (.slice none 0 0) ∧ wm.cell? ⟨wp.heap.size, 2, none⟩ = some (.int .i64 0)) ∧ wm.frozen? ⟨wp.heap.size, 0, none⟩ = false ∧ wm.frozen? ⟨wp.heap.size, 1, none⟩ = false ∧ wm.frozen? ⟨wp.heap.size, 2, none⟩ = false)) ?_ ?_; (· ((go_split_ands; (repeat' refine And.intro ?_ ?_) <;> (repeat (first | (with_reducible assumption) | (simp; done) | (with_reducible refine cell_drew_of ?_) | (with_reducible refine cell_drewN_of ?_) | (with_reducible refine cell_below_of (by with_reducible assumption) ?_) | ((with_reducible refine cell_new_of ?_ ?_) <;> (first | (with_reducible rfl) | (simp; done))) | ((with_reducible refine fro_new_of ?_) <;> (first | (with_reducible rfl) | (simp; done))) | (with_reducible refine cell_alloc_of _ ?_) | (with_reducible refine cell_set_of _ (by (first | exact Nat.le_refl _ | omega | (simp; done) | (simp; omega))) ?_) | (with_reducible refine fro_drew_of ?_) | (with_reducible refine fro_drewN_of ?_) | (with_reducible refine fro_below_of (by with_reducible assumption) (by (first | exact Nat.le_refl _ | omega | (simp; done) | (simp; omega))) ?_) | (with_reducible refine fro_alloc_of _ (by (first | exact Nat.le_refl _ | omega | (simp; done) | (simp; omega))) ?_) | (with_reducible refine fro_set_of _ ?_)))))); rintro ⟨⟨_, _, _⟩, _, _, _⟩)); (try (refine lay_in (A := ((wm.cell? ⟨wp.heap.size + 1, 0, none⟩ = some (.slice none 0 0) ∧ wm.cell? ⟨wp.heap.size + 1, 1, none⟩ = some (.slice none 0 0) ∧ wm.cell? ⟨wp.heap.size + 1, 2, none⟩ = some (.int .i64 0)) ∧ wm.frozen? ⟨wp.heap.size + 1, 0, none⟩ = false ∧ wm.frozen? ⟨wp.heap.size + 1, 1, none⟩ = false ∧ wm.frozen? ⟨wp.heap.size + 1, 2, none⟩ = false)) ?_ ?_; (· ((go_split_ands; (repeat' refine And.intro ?_ ?_) <;> (repeat (first | (with_reducible assumption) | (simp; done) | (with_reducible refine cell_drew_of ?_) | (with_reducible refine cell_drewN_of ?_) | (with_reducible refine cell_below_of (by with_reducible assumption) ?_) | ((with_reducible refine cell_new_of ?_ ?_) <;> (first | (with_reducible rfl) | (simp; done))) | ((with_reducible refine fro_new_of ?_) <;> (first | (with_reducible rfl) | (simp; done))) | (with_reducible refine cell_alloc_of _ ?_) | (with_reducible refine cell_set_of _ (by (first | exact Nat.le_refl _ | omega | (simp; done) | (simp; omega))) ?_) | (with_reducible refine fro_drew_of ?_) | (with_reducible refine fro_drewN_of ?_) | (with_reducible refine fro_below_of (by with_reducible assumption) (by (first | exact Nat.le_refl _ | omega | (simp; done) | (simp; omega))) ?_) | (with_reducible refine fro_alloc_of _ (by (first | exact Nat.le_refl _ | omega | (simp; done) | (simp; omega))) ?_) | (with_reducible refine fro_set_of _ ?_)))))); rintro ⟨⟨_, _, _⟩, _, _, _⟩)); (try (refine lay_in (A := ((wm.cell? ⟨wn.heap.size, 0, none⟩ = some (.slice none 0 0) ∧ wm.cell? ⟨wn.heap.size, 1, none⟩ = some (.slice none 0 0) ∧ wm.cell? ⟨wn.heap.size, 2, none⟩ = some (.int .i64 0)) ∧ wm.frozen? ⟨wn.heap.size, 0, none⟩ = false ∧ wm.frozen? ⟨wn.heap.size, 1, none⟩ = false ∧ wm.frozen? ⟨wn.heap.size, 2, none⟩ = false)) ?_ ?_; (· ((go_split_ands; (repeat' refine And.intro ?_ ?_) <;> (repeat (first | (with_reducible assumption) | (simp; done) | (with_reducible refine cell_drew_of ?_) | (with_reducible refine cell_drewN_of ?_) | (with_reducible refine cell_below_of (by with_reducible assumption) ?_) | ((with_reducible refine cell_new_of ?_ ?_) <;> (first | (with_reducible rfl) | (simp; done))) | ((with_reducible refine fro_new_of ?_) <;> (first | (with_reducible rfl) | (simp; done))) | (with_reducible refine cell_alloc_of _ ?_) | (with_reducible refine cell_set_of _ (by (first | exact Nat.le_refl _ | omega | (simp; done) | (simp; omega))) ?_) | (with_reducible refine fro_drew_of ?_) | (with_reducible refine fro_drewN_of ?_) | (with_reducible refine fro_below_of (by with_reducible assumption) (by (first | exact Nat.le_refl _ | omega | (simp; done) | (simp; omega))) ?_) | (with_reducible refine fro_alloc_of _ (by (first | exact Nat.le_refl _ | omega | (simp; done) | (simp; omega))) ?_) | (with_reducible refine fro_set_of _ ?_)))))); rintro ⟨⟨_, _, _⟩, _, _, _⟩)); (try (refine lay_in (A := ((wm.cell? ⟨wn.heap.size + 1, 0, none⟩ = some (.slice none 0 0) ∧ wm.cell? ⟨wn.heap.size + 1, 1, none⟩ = some (.slice none 0 0) ∧ wm.cell? ⟨wn.heap.size + 1, 2, none⟩ = some (.int .i64 0)) ∧ wm.frozen? ⟨wn.heap.size + 1, 0, none⟩ = false ∧ wm.frozen? ⟨wn.heap.size + 1, 1, none⟩ = false ∧ wm.frozen? ⟨wn.heap.size + 1, 2, none⟩ = false)) ?_ ?_; (· ((go_split_ands; (repeat' refine And.intro ?_ ?_) <;> (repeat (first | (with_reducible assumption) | (simp; done) | (with_reducible refine cell_drew_of ?_) | (with_reducible refine cell_drewN_of ?_) | (with_reducible refine cell_below_of (by with_reducible assumption) ?_) | ((with_reducible refine cell_new_of ?_ ?_) <;> (first | (with_reducible rfl) | (simp; done))) | ((with_reducible refine fro_new_of ?_) <;> (first | (with_reducible rfl) | (simp; done))) | (with_reducible refine cell_alloc_of _ ?_) | (with_reducible refine cell_set_of _ (by (first | exact Nat.le_refl _ | omega | (simp; done) | (simp; omega))) ?_) | (with_reducible refine fro_drew_of ?_) | (with_reducible refine fro_drewN_of ?_) | (with_reducible refine fro_below_of (by with_reducible assumption) (by (first | exact Nat.le_refl _ | omega | (simp; done) | (simp; omega))) ?_) | (with_reducible refine fro_alloc_of _ (by (first | exact Nat.le_refl _ | omega | (simp; done) | (simp; omega))) ?_) | (with_reducible refine fro_set_of _ ?_)))))); rintro ⟨⟨_, _, _⟩, _, _, _⟩))) | (go_at_call 20; refine (theirs_any st B pA gA pc gc _ (HS.out.later ((show Below W.heap.size W _ from HB1.out.trans ((show Below w1.heap.size w1 _ from (by repeat (first | (with_reducible exact Below.refl _ _) | (with_reducible refine Below.drew ?_) | (with_reducible refine below_drewN ?_ _) | ((with_reducible refine below_alloc ?_ ?_ _); · (first | exact Nat.le_refl _ | omega | (simp; done) | (simp; omega) | (simp at *; omega))) | ((with_reducible refine below_set ?_ ?_ _); · (first | exact Nat.le_refl _ | omega | (simp; done) | (simp; omega) | (simp at *; omega))) | ((with_reducible refine below_via (by with_reducible assumption) ?_ ?_); · (first | exact Nat.le_refl _ | omega | (simp; done) | (simp; omega) | (simp at *; omega)))))).mono (by omega))).mono hB))).mono ?_; rintro e wt ⟨hbt, pA2, pc2, gA2, gc2, rfl, htp, htg, hpc2, hgc2⟩; have hhT := Lib.hid (show Below wm.heap.size wm wt from (by repeat (first | (with_reducible exact Below.refl _ _) | (with_reducible assumption) | (with_reducible refine Below.drew ?_) | ((with_reducible refine below_alloc ?_ ?_ _); (· (first | exact Nat.le_refl _ | omega | (dsimp only; omega) | (simp only [World.size_alloc, World.size_drew, World.heap_drewN]; omega) | (simp; omega)))) | ((with_reducible refine below_set ?_ ?_ _); (· (first | exact Nat.le_refl _ | omega | (dsimp only; omega) | (simp only [World.size_alloc, World.size_drew, World.heap_drewN]; omega) | (simp; omega)))) | ((with_reducible refine below_via (by with_reducible assumption) ?_ ?_); (· (first | exact Nat.le_refl _ | omega | (dsimp only; omega) | (simp only [World.size_alloc, World.size_drew, World.heap_drewN]; omega) | (simp; omega))))))); have hzt := hbt.size; (try simp only [World.size_drew, World.heap_drewN, World.size_alloc] at hzt);  (try (refine lay_in (A := ((wt.cell? ⟨w1.heap.size, 0, none⟩ = some (.slice none 0 0) ∧ wt.cell? ⟨w1.heap.size, 1, none⟩ = some (.slice none 0 0) ∧ wt.cell? ⟨w1.heap.size, 2, none⟩ = some (.int .i64 0)) ∧ wt.frozen? ⟨w1.heap.size, 0, none⟩ = false ∧ wt.frozen? ⟨w1.heap.size, 1, none⟩ = false ∧ wt.frozen? ⟨w1.heap.size, 2, none⟩ = false)) ?_ ?_; (· ((go_split_ands; (repeat' refine And.intro ?_ ?_) <;> (repeat (first | (with_reducible assumption) | (simp; done) | (with_reducible refine cell_drew_of ?_) | (with_reducible refine cell_drewN_of ?_) | (with_reducible refine cell_below_of (by with_reducible assumption) ?_) | ((with_reducible refine cell_new_of ?_ ?_) <;> (first | (with_reducible rfl) | (simp; done))) | ((with_reducible refine fro_new_of ?_) <;> (first | (with_reducible rfl) | (simp; done))) | (with_reducible refine cell_alloc_of _ ?_) | (with_reducible refine cell_set_of _ (by (first | exact Nat.le_refl _ | omega | (simp; done) | (simp; omega))) ?_) | (with_reducible refine fro_drew_of ?_) | (with_reducible refine fro_drewN_of ?_) | (with_reducible refine fro_below_of (by with_reducible assumption) (by (first | exact Nat.le_refl _ | omega | (simp; done) | (simp; omega))) ?_) | (with_reducible refine fro_alloc_of _ (by (first | exact Nat.le_refl _ | omega | (simp; done) | (simp; omega))) ?_) | (with_reducible refine fro_set_of _ ?_)))))); rintro ⟨⟨_, _, _⟩, _, _, _⟩)); (try (refine lay_in (A := ((wt.cell? ⟨w1.heap.size + 1, 0, none⟩ = some (.slice none 0 0) ∧ wt.cell? ⟨w1.heap.size + 1, 1, none⟩ = some (.slice none 0 0) ∧ wt.cell? ⟨w1.heap.size + 1, 2, none⟩ = some (.int .i64 0)) ∧ wt.frozen? ⟨w1.heap.size + 1, 0, none⟩ = false ∧ wt.frozen? ⟨w1.heap.size + 1, 1, none⟩ = false ∧ wt.frozen? ⟨w1.heap.size + 1, 2, none⟩ = false)) ?_ ?_; (· ((go_split_ands; (repeat' refine And.intro ?_ ?_) <;> (repeat (first | (with_reducible assumption) | (simp; done) | (with_reducible refine cell_drew_of ?_) | (with_reducible refine cell_drewN_of ?_) | (with_reducible refine cell_below_of (by with_reducible assumption) ?_) | ((with_reducible refine cell_new_of ?_ ?_) <;> (first | (with_reducible rfl) | (simp; done))) | ((with_reducible refine fro_new_of ?_) <;> (first | (with_reducible rfl) | (simp; done))) | (with_reducible refine cell_alloc_of _ ?_) | (with_reducible refine cell_set_of _ (by (first | exact Nat.le_refl _ | omega | (simp; done) | (simp; omega))) ?_) | (with_reducible refine fro_drew_of ?_) | (with_reducible refine fro_drewN_of ?_) | (with_reducible refine fro_below_of (by with_reducible assumption) (by (first | exact Nat.le_refl _ | omega | (simp; done) | (simp; omega))) ?_) | (with_reducible refine fro_alloc_of _ (by (first | exact Nat.le_refl _ | omega | (simp; done) | (simp; omega))) ?_) | (with_reducible refine fro_set_of _ ?_)))))); rintro ⟨⟨_, _, _⟩, _, _, _⟩)); (try (refine lay_in (A := ((wt.cell? ⟨wp.heap.size, 0, none⟩ = some (.slice none 0 0) ∧ wt.cell? ⟨wp.heap.size, 1, none⟩ = some (.slice none 0 0) ∧ wt.cell? ⟨wp.heap.size, 2, none⟩ = some (.int .i64 0)) ∧ wt.frozen? ⟨wp.heap.size, 0, none⟩ = false ∧ wt.frozen? ⟨wp.heap.size, 1, none⟩ = false ∧ wt.frozen? ⟨wp.heap.size, 2, none⟩ = false)) ?_ ?_; (· ((go_split_ands; (repeat' refine And.intro ?_ ?_) <;> (repeat (first | (with_reducible assumption) | (simp; done) | (with_reducible refine cell_drew_of ?_) | (with_reducible refine cell_drewN_of ?_) | (with_reducible refine cell_below_of (by with_reducible assumption) ?_) | ((with_reducible refine cell_new_of ?_ ?_) <;> (first | (with_reducible rfl) | (simp; done))) | ((with_reducible refine fro_new_of ?_) <;> (first | (with_reducible rfl) | (simp; done))) | (with_reducible refine cell_alloc_of _ ?_) | (with_reducible refine cell_set_of _ (by (first | exact Nat.le_refl _ | omega | (simp; done) | (simp; omega))) ?_) | (with_reducible refine fro_drew_of ?_) | (with_reducible refine fro_drewN_of ?_) | (with_reducible refine fro_below_of (by with_reducible assumption) (by (first | exact Nat.le_refl _ | omega | (simp; done) | (simp; omega))) ?_) | (with_reducible refine fro_alloc_of _ (by (first | exact Nat.le_refl _ | omega | (simp; done) | (simp; omega))) ?_) | (with_reducible refine fro_set_of _ ?_)))))); rintro ⟨⟨_, _, _⟩, _, _, _⟩)); (try (refine lay_in (A := ((wt.cell? ⟨wp.heap.size + 1, 0, none⟩ = some (.slice none 0 0) ∧ wt.cell? ⟨wp.heap.size + 1, 1, none⟩ = some (.slice none 0 0) ∧ wt.cell? ⟨wp.heap.size + 1, 2, none⟩ = some (.int .i64 0)) ∧ wt.frozen? ⟨wp.heap.size + 1, 0, none⟩ = false ∧ wt.frozen? ⟨wp.heap.size + 1, 1, none⟩ = false ∧ wt.frozen? ⟨wp.heap.size + 1, 2, none⟩ = false)) ?_ ?_; (· ((go_split_ands; (repeat' refine And.intro ?_ ?_) <;> (repeat (first | (with_reducible assumption) | (simp; done) | (with_reducible refine cell_drew_of ?_) | (with_reducible refine cell_drewN_of ?_) | (with_reducible refine cell_below_of (by with_reducible assumption) ?_) | ((with_reducible refine cell_new_of ?_ ?_) <;> (first | (with_reducible rfl) | (simp; done))) | ((with_reducible refine fro_new_of ?_) <;> (first | (with_reducible rfl) | (simp; done))) | (with_reducible refine cell_alloc_of _ ?_) | (with_reducible refine cell_set_of _ (by (first | exact Nat.le_refl _ | omega | (simp; done) | (simp; omega))) ?_) | (with_reducible refine fro_drew_of ?_) | (with_reducible refine fro_drewN_of ?_) | (with_reducible refine fro_below_of (by with_reducible assumption) (by (first | exact Nat.le_refl _ | omega | (simp; done) | (simp; omega))) ?_) | (with_reducible refine fro_alloc_of _ (by (first | exact Nat.le_refl _ | omega | (simp; done) | (simp; omega))) ?_) | (with_reducible refine fro_set_of _ ?_)))))); rintro ⟨⟨_, _, _⟩, _, _, _⟩)); (try (refine lay_in (A := ((wt.cell? ⟨wm.heap.size, 0, none⟩ = some (.slice none 0 0) ∧ wt.cell? ⟨wm.heap.size, 1, none⟩ = some (.slice none 0 0) ∧ wt.cell? ⟨wm.heap.size, 2, none⟩ = some (.int .i64 0)) ∧ wt.frozen? ⟨wm.heap.size, 0, none⟩ = false ∧ wt.frozen? ⟨wm.heap.size, 1, none⟩ = false ∧ wt.frozen? ⟨wm.heap.size, 2, none⟩ = false)) ?_ ?_; (· ((go_split_ands; (repeat' refine And.intro ?_ ?_) <;> (repeat (first | (with_reducible assumption) | (simp; done) | (with_reducible refine cell_drew_of ?_) | (with_reducible refine cell_drewN_of ?_) | (with_reducible refine cell_below_of (by with_reducible assumption) ?_) | ((with_reducible refine cell_new_of ?_ ?_) <;> (first | (with_reducible rfl) | (simp; done))) | ((with_reducible refine fro_new_of ?_) <;> (first | (with_reducible rfl) | (simp; done))) | (with_reducible refine cell_alloc_of _ ?_) | (with_reducible refine cell_set_of _ (by (first | exact Nat.le_refl _ | omega | (simp; done) | (simp; omega))) ?_) | (with_reducible refine fro_drew_of ?_) | (with_reducible refine fro_drewN_of ?_) | (with_reducible refine fro_below_of (by with_reducible assumption) (by (first | exact Nat.le_refl _ | omega | (simp; done) | (simp; omega))) ?_) | (with_reducible refine fro_alloc_of _ (by (first | exact Nat.le_refl _ | omega | (simp; done) | (simp; omega))) ?_) | (with_reducible refine fro_set_of _ ?_)))))); rintro ⟨⟨_, _, _⟩, _, _, _⟩)); (try (refine lay_in (A := ((wt.cell? ⟨wm.heap.size + 1, 0, none⟩ = some (.slice none 0 0) ∧ wt.cell? ⟨wm.heap.size + 1, 1, none⟩ = some (.slice none 0 0) ∧ wt.cell? ⟨wm.heap.size + 1, 2, none⟩ = some (.int .i64 0)) ∧ wt.frozen? ⟨wm.heap.size + 1, 0, none⟩ = false ∧ wt.frozen? ⟨wm.heap.size + 1, 1, none⟩ = false ∧ wt.frozen? ⟨wm.heap.size + 1, 2, none⟩ = false)) ?_ ?_; (· ((go_split_ands; (repeat' refine And.intro ?_ ?_) <;> (repeat (first | (with_reducible assumption) | (simp; done) | (with_reducible refine cell_drew_of ?_) | (with_reducible refine cell_drewN_of ?_) | (with_reducible refine cell_below_of (by with_reducible assumption) ?_) | ((with_reducible refine cell_new_of ?_ ?_) <;> (first | (with_reducible rfl) | (simp; done))) | ((with_reducible refine fro_new_of ?_) <;> (first | (with_reducible rfl) | (simp; done))) | (with_reducible refine cell_alloc_of _ ?_) | (with_reducible refine cell_set_of _ (by (first | exact Nat.le_refl _ | omega | (simp; done) | (simp; omega))) ?_) | (with_reducible refine fro_drew_of ?_) | (with_reducible refine fro_drewN_of ?_) | (with_reducible refine fro_below_of (by with_reducible assumption) (by (first | exact Nat.le_refl _ | omega | (simp; done) | (simp; omega))) ?_) | (with_reducible refine fro_alloc_of _ (by (first | exact Nat.le_refl _ | omega | (simp; done) | (simp; omega))) ?_) | (with_reducible refine fro_set_of _ ?_)))))); rintro ⟨⟨_, _, _⟩, _, _, _⟩)); (try (refine lay_in (A := ((wt.cell? ⟨wn.heap.size, 0, none⟩ = some (.slice none 0 0) ∧ wt.cell? ⟨wn.heap.size, 1, none⟩ = some (.slice none 0 0) ∧ wt.cell? ⟨wn.heap.size, 2, none⟩ = some (.int .i64 0)) ∧ wt.frozen? ⟨wn.heap.size, 0, none⟩ = false ∧ wt.frozen? ⟨wn.heap.size, 1, none⟩ = false ∧ wt.frozen? ⟨wn.heap.size, 2, none⟩ = false)) ?_ ?_; (· ((go_split_ands; (repeat' refine And.intro ?_ ?_) <;> (repeat (first | (with_reducible assumption) | (simp; done) | (with_reducible refine cell_drew_of ?_) | (with_reducible refine cell_drewN_of ?_) | (with_reducible refine cell_below_of (by with_reducible assumption) ?_) | ((with_reducible refine cell_new_of ?_ ?_) <;> (first | (with_reducible rfl) | (simp; done))) | ((with_reducible refine fro_new_of ?_) <;> (first | (with_reducible rfl) | (simp; done))) | (with_reducible refine cell_alloc_of _ ?_) | (with_reducible refine cell_set_of _ (by (first | exact Nat.le_refl _ | omega | (simp; done) | (simp; omega))) ?_) | (with_reducible refine fro_drew_of ?_) | (with_reducible refine fro_drewN_of ?_) | (with_reducible refine fro_below_of (by with_reducible assumption) (by (first | exact Nat.le_refl _ | omega | (simp; done) | (simp; omega))) ?_) | (with_reducible refine fro_alloc_of _ (by (first | exact Nat.le_refl _ | omega | (simp; done) | (simp; omega))) ?_) | (with_reducible refine fro_set_of _ ?_)))))); rintro ⟨⟨_, _, _⟩, _, _, _⟩)); (try (refine lay_in (A := ((wt.cell? ⟨wn.heap.size + 1, 0, none⟩ = some (.slice none 0 0) ∧ wt.cell? ⟨wn.heap.size + 1, 1, none⟩ = some (.slice none 0 0) ∧ wt.cell? ⟨wn.heap.size + 1, 2, none⟩ = some (.int .i64 0)) ∧ wt.frozen? ⟨wn.heap.size + 1, 0, none⟩ = false ∧ wt.frozen? ⟨wn.heap.size + 1, 1, none⟩ = false ∧ wt.frozen? ⟨wn.heap.size + 1, 2, none⟩ = false)) ?_ ?_; (· ((go_split_ands; (repeat' refine And.intro ?_ ?_) <;> (repeat (first | (with_reducible assumption) | (simp; done) | (with_reducible refine cell_drew_of ?_) | (with_reducible refine cell_drewN_of ?_) | (with_reducible refine cell_below_of (by with_reducible assumption) ?_) | ((with_reducible refine cell_new_of ?_ ?_) <;> (first | (with_reducible rfl) | (simp; done))) | ((with_reducible refine fro_new_of ?_) <;> (first | (with_reducible rfl) | (simp; done))) | (with_reducible refine cell_alloc_of _ ?_) | (with_reducible refine cell_set_of _ (by (first | exact Nat.le_refl _ | omega | (simp; done) | (simp; omega))) ?_) | (with_reducible refine fro_drew_of ?_) | (with_reducible refine fro_drewN_of ?_) | (with_reducible refine fro_below_of (by with_reducible assumption) (by (first | exact Nat.le_refl _ | omega | (simp; done) | (simp; omega))) ?_) | (with_reducible refine fro_alloc_of _ (by (first | exact Nat.le_refl _ | omega | (simp; done) | (simp; omega))) ?_) | (with_reducible refine fro_set_of _ ?_)))))); rintro ⟨⟨_, _, _⟩, _, _, _⟩))))
  all_goals
    show K _ _
    refine hK _ _ pA1 gA1 pA2 gA2 pc1 gc1 pc2 gc2 qA qc mA mc _ _ _ _ _ _ _ _ _ ⟨?_, hmc⟩
    refine plans_close HS.out HL.out HPL.out HB1.out (by omega) HA.out hhP.out hhN.out hhM.out hhT.out hop hog hpc1 hgc1 hqo hom htp htg hpc2 hgc2 ?os ?tp ?ou ?z ?f ?k1 ?k2 ?s1 ?s2
    case os => simp only [setCell_os, alloc_os]
    case tp => simp only [setCell_tape, alloc_tape]
    case ou => simp only [setCell_output, alloc_output]
    case z => (try simp only [setCell_size, World.size_alloc]) <;> omega
    case f => intro i hi h1 h2; repeat (first | (with_reducible rfl) | ((with_reducible refine Eq.trans (set_heap _ ?_) ?_); (· first | exact h1 | exact h2 | (dsimp only; omega))) | ((with_reducible refine Eq.trans (Below.heap_alloc _ _ _ ?_) ?_); (· first | omega | (simp; omega))))
    case k1 => (try simp only [World.size_alloc, World.size_drew]) <;> omega
    case k2 => (try simp only [World.size_alloc, World.size_drew]) <;> omega
    case s1 => exact (by (repeat' refine And.intro ?_ ?_) <;> (repeat (first | (with_reducible assumption) | (with_reducible refine cell_set_is ?_) | (with_reducible refine has_set ?_) | (with_reducible exact has_of (by with_reducible assumption)) | ((with_reducible refine has_new ?_ ?_) <;> (first | (with_reducible rfl) | (simp; done))) | (with_reducible refine has_alloc ?_) | (with_reducible refine cell_set_off (by decide) ?_) | (with_reducible refine cell_drew_of ?_) | (with_reducible refine cell_below_of (by with_reducible assumption) ?_) | ((with_reducible refine cell_new_of ?_ ?_) <;> (first | (with_reducible rfl) | (simp; done))) | (with_reducible refine cell_alloc_of _ ?_) | (with_reducible refine cell_set_of _ (by (first | exact Nat.le_refl _ | omega | (dsimp only; omega) | (simp only [World.size_alloc, World.size_drew, World.heap_drewN]; omega) | (simp; omega))) ?_))))
    case s2 => exact (by (repeat' refine And.intro ?_ ?_) <;> (repeat (first | (with_reducible assumption) | (with_reducible refine cell_set_is ?_) | (with_reducible refine has_set ?_) | (with_reducible exact has_of (by with_reducible assumption)) | ((with_reducible refine has_new ?_ ?_) <;> (first | (with_reducible rfl) | (simp; done))) | (with_reducible refine has_alloc ?_) | (with_reducible refine cell_set_off (by decide) ?_) | (with_reducible refine cell_drew_of ?_) | (with_reducible refine cell_below_of (by with_reducible assumption) ?_) | ((with_reducible refine cell_new_of ?_ ?_) <;> (first | (with_reducible rfl) | (simp; done))) | (with_reducible refine cell_alloc_of _ ?_) | (with_reducible refine cell_set_of _ (by (first | exact Nat.le_refl _ | omega | (dsimp only; omega) | (simp only [World.size_alloc, World.size_drew, World.heap_drewN]; omega) | (simp; omega))) ?_))))

set_option maxRecDepth 100000 in
set_option maxHeartbeats 0 in
/-- the end -/
theorem plans_rest2 (st : St) (b1 b2 : Nat) (pA gA pA1 gA1 pA2 gA2 : Option Addr) (pc gc pc1 gc1 pc2 gc2 : Nat) (A qA lA mA : Option Addr) (m c qc ln lc mc : Nat) (L : Nat → Nat × (Nat → Int)) (X : Nat → Int) (W : World) (h1 : st.n ≤ 6) (h2 : st.m ≤ 6) (h3 : ln ≤ 8) (h4 : m ≤ 5) (HLEN : Hid (∀ k, k < m → (L k).1 ≤ 1000)) (hmc : ln ≤ mc) (w2 : World) (H2 : Hid (PlansAt W w2 st b1 b2 pA gA pA1 gA1 pA2 gA2 pc gc pc1 gc1 pc2 gc2 A qA lA mA m ln L X)) {u0 u4 u5 u6 u11 u12 u13 u14 u15 u16 u17 u18 u19 u20 u21 u22 u23 u24 u25 u26 u27 u28 u29 u30 u31 u32 u33 u34 u35 u36 u37 u38 u39 u40 u41 u42 u43 u44 u45 u46 u47 u48 u49 u50 u51 u52 u53 u54 u55 u56 u57 u58 u59 u60 u61 u62 u63 u64 u65 u66 u67 u68 u69 u70 u71 u72 u73 u74 u75 u76 u77 u78 u79 u80 u81 u82 u83 u84 u85 u86 u87 u88 u89 u90 u91 u92 u93 u94 u95 u96 u97 u98 u99 u100 u101 u102 u103 u104 u105 u106 u107 u108 u109 u110 u111 u112 u113 u114 u115 u116 u117 u118 u119 u120 u121 u122 u123 u124 u125 u126 u127 u128 u129 u130 u131 u132 u133 u134 u135 u136 u137 u138 u139 u140 u141 u142 u143 u144 u145 u146 u147 u148 u149 u150 u151 u152 u153 u154 u155 u156 u157 u158 u159 u160 u161 u162 u163 u164 u165 u166 u167 u168 u169 u170 u171 u172 : Value}
    (K : Act → World → Prop) (hK : ∀ a w, Code.wp Try.prog (tlOf (fromReg 28 (Try.f12.body.getD .skip))) (bodyPost Try.prog Try.f12 fun e W' => e = .returned (.bool true) ∧ Below W.heap.size W W') a w → K a w) :
    Code.wp Try.prog (hdOf (fromReg 28 (Try.f12.body.getD .skip))) (Exit.then K (bodyPost Try.prog Try.f12 fun e W' => e = .returned (.bool true) ∧ Below W.heap.size W W')) ⟨(List.toArray (u0 :: (.slice A m c) :: (.slice lA ln lc) :: (.pointer (some ⟨W.heap.size, 0, none⟩)) :: u4 :: u5 :: u6 :: (.pointer (some ⟨b1, 0, none⟩)) :: (.slice qA m qc) :: (.slice mA ln mc) :: (.pointer (some ⟨b2, 0, none⟩)) :: u11 :: u12 :: u13 :: u14 :: u15 :: u16 :: u17 :: u18 :: u19 :: u20 :: u21 :: u22 :: u23 :: u24 :: u25 :: u26 :: u27 :: u28 :: u29 :: u30 :: u31 :: u32 :: u33 :: u34 :: u35 :: u36 :: u37 :: u38 :: u39 :: u40 :: u41 :: u42 :: u43 :: u44 :: u45 :: u46 :: u47 :: u48 :: u49 :: u50 :: u51 :: u52 :: u53 :: u54 :: u55 :: u56 :: u57 :: u58 :: u59 :: u60 :: u61 :: u62 :: u63 :: u64 :: u65 :: u66 :: u67 :: u68 :: u69 :: u70 :: u71 :: u72 :: u73 :: u74 :: u75 :: u76 :: u77 :: u78 :: u79 :: u80 :: u81 :: u82 :: u83 :: u84 :: u85 :: u86 :: u87 :: u88 :: u89 :: u90 :: u91 :: u92 :: u93 :: u94 :: u95 :: u96 :: u97 :: u98 :: u99 :: u100 :: u101 :: u102 :: u103 :: u104 :: u105 :: u106 :: u107 :: u108 :: u109 :: u110 :: u111 :: u112 :: u113 :: u114 :: u115 :: u116 :: u117 :: u118 :: u119 :: u120 :: u121 :: u122 :: u123 :: u124 :: u125 :: u126 :: u127 :: u128 :: u129 :: u130 :: u131 :: u132 :: u133 :: u134 :: u135 :: u136 :: u137 :: u138 :: u139 :: u140 :: u141 :: u142 :: u143 :: u144 :: u145 :: u146 :: u147 :: u148 :: u149 :: u150 :: u151 :: u152 :: u153 :: u154 :: u155 :: u156 :: u157 :: u158 :: u159 :: u160 :: u161 :: u162 :: u163 :: u164 :: u165 :: u166 :: u167 :: u168 :: u169 :: u170 :: u171 :: u172 :: [])), []⟩ w2 := by
  (conv => arg 2; whnf); (obtain ⟨y, hy⟩ : ∃ y, tlOf (fromReg 28 (Try.f12.body.getD .skip)) = y := ⟨_, rfl⟩); rw [hy] at hK; (conv at hy => lhs; whnf); subst hy
  obtain ⟨o0, o1, o2⟩ := H2.out.q.s1
  obtain ⟨t0, t1, t2⟩ := H2.out.q.s0
  go_wp2_with fail
  refine (same_any st _ _ pA1 gA1 pA gA pc1 gc1 pc gc _ H2.out.q.r1 H2.out.q.r0).mono ?_
  rintro e wb ⟨rfl, hb⟩
  have Hb := Lib.hid (H2.out.later hb)
  clear hb o0 o1 o2 t0 t1 t2 H2
  go_wp2_with fail
  refine (alikerows_any qA A m qc c L _ Hb.out.p1 Hb.out.p0 (by omega) HLEN.out).mono ?_
  rintro e wc ⟨rfl, hb⟩
  have Hc := Lib.hid (Hb.out.later hb)
  clear hb Hb
  go_wp2_with fail
  refine (alike_int mA lA ln ln mc lc X X _ Hc.out.l1 Hc.out.l0 (by omega)).mono ?_
  rintro e wd ⟨rfl, hb⟩
  rw [alln_int, decide_eq_true rfl]
  have Hd := Lib.hid (Hc.out.later hb)
  clear hb Hc
  go_wp2_with fail
  refine (awake_any _).mono ?_
  rintro e wf ⟨rfl, hb⟩
  have Hf := Lib.hid (Hd.out.b.trans (hb.mono Hd.out.b.size))
  clear hb Hd
  go_wp2_with fail
  go_ret
  exact ⟨rfl, Hf.out⟩

set_option maxRecDepth 100000 in
set_option maxHeartbeats 0 in
/-- from what the plan brings on -/
theorem plans_rest1 (st : St) (b1 b2 : Nat) (pA gA pA1 gA1 pA2 gA2 : Option Addr) (pc gc pc1 gc1 pc2 gc2 : Nat) (A qA lA mA : Option Addr) (m c qc ln lc mc : Nat) (L : Nat → Nat × (Nat → Int)) (X : Nat → Int) (W : World) (h1 : st.n ≤ 6) (h2 : st.m ≤ 6) (h3 : ln ≤ 8) (h4 : m ≤ 5) (HLEN : Hid (∀ k, k < m → (L k).1 ≤ 1000)) (hmc : ln ≤ mc) (w2 : World) (H2 : Hid (PlansAt W w2 st b1 b2 pA gA pA1 gA1 pA2 gA2 pc gc pc1 gc1 pc2 gc2 A qA lA mA m ln L X)) {u0 u4 u5 u6 u11 u12 u13 u14 u15 u16 u17 u18 u19 u20 u21 u22 u23 u24 u25 u26 u27 u28 u29 u30 u31 u32 u33 u34 u35 u36 u37 u38 u39 u40 u41 u42 u43 u44 u45 u46 u47 u48 u49 u50 u51 u52 u53 u54 u55 u56 u57 u58 u59 u60 u61 u62 u63 u64 u65 u66 u67 u68 u69 u70 u71 u72 u73 u74 u75 u76 u77 u78 u79 u80 u81 u82 u83 u84 u85 u86 u87 u88 u89 u90 u91 u92 u93 u94 u95 u96 u97 u98 u99 u100 u101 u102 u103 u104 u105 u106 u107 u108 u109 u110 u111 u112 u113 u114 u115 u116 u117 u118 u119 u120 u121 u122 u123 u124 u125 u126 u127 u128 u129 u130 u131 u132 u133 u134 u135 u136 u137 u138 u139 u140 u141 u142 u143 u144 u145 u146 u147 u148 u149 u150 u151 u152 u153 u154 u155 u156 u157 u158 u159 u160 u161 u162 u163 u164 u165 u166 u167 u168 u169 u170 u171 u172 : Value}
    (K : Act → World → Prop) (hK : ∀ a w, Code.wp Try.prog (tlOf (fromReg 4 (Try.f12.body.getD .skip))) (bodyPost Try.prog Try.f12 fun e W' => e = .returned (.bool true) ∧ Below W.heap.size W W') a w → K a w) :
    Code.wp Try.prog (hdOf (fromReg 4 (Try.f12.body.getD .skip))) (Exit.then K (bodyPost Try.prog Try.f12 fun e W' => e = .returned (.bool true) ∧ Below W.heap.size W W')) ⟨(List.toArray (u0 :: (.slice A m c) :: (.slice lA ln lc) :: (.pointer (some ⟨W.heap.size, 0, none⟩)) :: u4 :: u5 :: u6 :: (.pointer (some ⟨b1, 0, none⟩)) :: (.slice qA m qc) :: (.slice mA ln mc) :: (.pointer (some ⟨b2, 0, none⟩)) :: u11 :: u12 :: u13 :: u14 :: u15 :: u16 :: u17 :: u18 :: u19 :: u20 :: u21 :: u22 :: u23 :: u24 :: u25 :: u26 :: u27 :: u28 :: u29 :: u30 :: u31 :: u32 :: u33 :: u34 :: u35 :: u36 :: u37 :: u38 :: u39 :: u40 :: u41 :: u42 :: u43 :: u44 :: u45 :: u46 :: u47 :: u48 :: u49 :: u50 :: u51 :: u52 :: u53 :: u54 :: u55 :: u56 :: u57 :: u58 :: u59 :: u60 :: u61 :: u62 :: u63 :: u64 :: u65 :: u66 :: u67 :: u68 :: u69 :: u70 :: u71 :: u72 :: u73 :: u74 :: u75 :: u76 :: u77 :: u78 :: u79 :: u80 :: u81 :: u82 :: u83 :: u84 :: u85 :: u86 :: u87 :: u88 :: u89 :: u90 :: u91 :: u92 :: u93 :: u94 :: u95 :: u96 :: u97 :: u98 :: u99 :: u100 :: u101 :: u102 :: u103 :: u104 :: u105 :: u106 :: u107 :: u108 :: u109 :: u110 :: u111 :: u112 :: u113 :: u114 :: u115 :: u116 :: u117 :: u118 :: u119 :: u120 :: u121 :: u122 :: u123 :: u124 :: u125 :: u126 :: u127 :: u128 :: u129 :: u130 :: u131 :: u132 :: u133 :: u134 :: u135 :: u136 :: u137 :: u138 :: u139 :: u140 :: u141 :: u142 :: u143 :: u144 :: u145 :: u146 :: u147 :: u148 :: u149 :: u150 :: u151 :: u152 :: u153 :: u154 :: u155 :: u156 :: u157 :: u158 :: u159 :: u160 :: u161 :: u162 :: u163 :: u164 :: u165 :: u166 :: u167 :: u168 :: u169 :: u170 :: u171 :: u172 :: [])), []⟩ w2 := by
  (conv => arg 2; whnf); (obtain ⟨y, hy⟩ : ∃ y, tlOf (fromReg 4 (Try.f12.body.getD .skip)) = y := ⟨_, rfl⟩); rw [hy] at hK; (conv at hy => lhs; whnf); subst hy
  obtain ⟨o0, o1, o2⟩ := H2.out.q.s1
  go_wp2_with fail
  refine (Earns_any st _ pA1 gA1 pc1 gc1 qA m qc L _ H2.out.q.r1 H2.out.p1 (by omega) HLEN.out).mono ?_
  rintro e w3 ⟨rfl, hb⟩
  have H3 := Lib.hid (H2.out.later hb)
  clear hb o0 o1 o2 H2
  obtain ⟨t0, t1, t2⟩ := H3.out.q.s2
  go_wp2_with fail
  refine (rEarns_any st _ pA2 gA2 pc2 gc2 A m c L _ H3.out.q.r2 H3.out.p0 (by omega) HLEN.out).mono ?_
  rintro e w4 ⟨rfl, hb⟩
  have H4 := Lib.hid (H3.out.later hb)
  clear hb t0 t1 t2 H3
  generalize st.earnsR m L = er
  have hp1 : (er.1 != er.1) = false := by simp
  have hp2 : (er.2 != er.2) = false := by simp
  obtain ⟨o0, o1, o2⟩ := H4.out.q.s1
  go_wp2_with fail
  refine (Bound_any st _ pA1 gA1 pc1 gc1 mA ln mc X _ H4.out.q.r1 H4.out.l1 (by omega) hmc).mono ?_
  rintro e w5 ⟨rfl, hb⟩
  have H5 := Lib.hid (H4.out.later hb)
  clear hb o0 o1 o2 H4 hp1 hp2
  obtain ⟨t0, t1, t2⟩ := H5.out.q.s2
  go_wp2_with fail
  refine (rBound_any st _ pA2 gA2 pc2 gc2 lA ln lc X _ H5.out.q.r2 H5.out.l0 (by omega)).mono ?_
  rintro e w6 ⟨rfl, hb⟩
  have H6 := Lib.hid (H5.out.later hb)
  clear hb t0 t1 t2 H5
  generalize st.boundR ln X = br
  have hp1 : (br.1 != br.1) = false := by simp
  have hp2 : (br.2 != br.2) = false := by simp
  obtain ⟨t0, t1, t2⟩ := H6.out.q.s0
  go_wp2_with fail
  refine (sacks_any st _ pA gA pc gc _ H6.out.q.r0).mono ?_
  rintro e w8 ⟨rfl, hb⟩
  have H8 := Lib.hid (H6.out.later hb)
  clear hb t0 t1 t2 H6 hp1 hp2
  by_cases hgo : st.sacks st.n ≤ 8 ∨ 4 < st.n
  · have fin : ∀ (P : Prop), (st.sacks st.n ≤ 8 → P) → ((¬ st.sacks st.n ≤ 8 ∧ (4 : Int) < (st.n : Int)) → P) → P := fun P f g => by
      by_cases h : st.sacks st.n ≤ 8
      · exact f h
      · exact g ⟨h, by omega⟩
    clear hgo
    obtain ⟨o0, o1, o2⟩ := H8.out.q.s1
    have t0 := H8.out.q.s0.1
    refine fin _ (fun hh => ?_) (fun hh => ?_)
    all_goals
      clear fin
      (try obtain ⟨hh, hh2⟩ := hh)
      go_wp2_with fail
      refine (Best_any st _ pA1 gA1 pc1 gc1 _ H8.out.q.r1).mono ?_
      rintro e w9 ⟨hb, hp⟩
      have H9 := Lib.hid (H8.out.later hb)
      clear hb o0 o1 o2 H8
      obtain ⟨t0, t1, t2⟩ := H9.out.q.s2
      rcases hp with ⟨h0, bA, bc, rfl, hro, hbc⟩ | ⟨h0, rfl⟩
      · have HO := Lib.hid (St.check_ok.1 h0)
        have H0 := Lib.hid h0
        have HPE := Lib.hid (St.plan_earns HO.out)
        have HGET : Hid (∀ j, j < (st.planN st.lots.toNat st.all).length → ((st.planN st.lots.toNat st.all).getD j bagZ).in_ st.all ∧ st.brings ((st.planN st.lots.toNat st.all).getD j bagZ) ≠ 0) := Lib.hid (fun j hj => St.plan_get HO.out hj)
        have HPR := Lib.hid (hro.plan st.planL (fun j x hj => by
          show (st.n, ((st.planN st.lots.toNat st.all).getD j bagZ).at) = _
          rw [List.getD_eq_getElem?_getD, hj]; rfl))
        have hlen := St.planN_len st st.lots.toNat st.all
        have hl0 := HO.out.l0
        have hl3 := HO.out.l3
        have hn4 := HO.out.n4
        have HPD : Hid (∀ j, st.planL j = (st.n, ((st.planN st.lots.toNat st.all).getD j bagZ).at)) := Lib.hid (fun j => rfl)
        clear h0 hro
        obtain ⟨z, hz⟩ : ∃ z, (st.choose st.lots.toNat st.all).2 = z := ⟨_, rfl⟩
        rw [hz] at HPE ⊢
        have HZ := Lib.hid hz
        clear hz
        generalize (st.planN st.lots.toNat st.all).length = len at HPE HGET HPR hlen hbc ⊢
        have hlen3 : len ≤ 3 := by omega
        clear hlen
        go_wp2_with fail
        refine (rBest_any st _ pA2 gA2 pc2 gc2 _ H9.out.q.r2).mono ?_
        rintro e wa ⟨rfl, hb⟩
        rw [if_neg (by simp [H0.out]), HZ.out, H0.out]
        have Ha := Lib.hid (H9.out.later hb)
        have HPRa := Lib.hid (HPR.out.later hb)
        have hz1 : (z != z) = false := by simp
        clear hb t0 t1 t2 H9 HPR
        obtain ⟨t0, t1, t2⟩ := Ha.out.q.s2
        go_wp2_with fail
        refine (rEarns_any st _ pA2 gA2 pc2 gc2 bA len bc st.planL _ Ha.out.q.r2 HPRa.out (by omega) (fun j hj => by rw [HPD.out j]; show st.n ≤ 1000; omega)).mono ?_
        rintro e wb ⟨rfl, hb⟩
        rw [HPE.out]
        have Hb := Lib.hid (Ha.out.later hb)
        have HPRb := Lib.hid (HPRa.out.later hb)
        clear hb t0 t1 t2 Ha HPRa
        go_wp2_with fail
        go_loopw [140] (fun i wr => ∃ k : Nat, k ≤ len ∧ i = .int .i64 k ∧ Hid (PlansAt W wr st b1 b2 pA gA pA1 gA1 pA2 gA2 pc gc pc1 gc1 pc2 gc2 A qA lA mA m ln L X) ∧ Hid (PlanRow wr wr.heap.size bA len st.planL)) (fun i _ => len - (intOf i).toNat)
        case atStart => exact ⟨0, Nat.zero_le _, rfl, Hb, HPRb⟩
        case round =>
          clear Hb HPRb
          obtain ⟨k, hk, rfl, Hr, HPr⟩ := hrel
          by_cases hlt : k < len
          · obtain ⟨b, o, rA, rc, rfl, hbl, c0, hrc, hri⟩ := HPr.out k hlt
            have hk0 : (0 : Int) ≤ (k : Int) := by omega
            have hkn : (k : Int) < (len : Int) := by omega
            obtain ⟨g1, g2⟩ := HGET.out k hlt
            rw [HPD.out k] at c0 hrc hri
            have HRI := Lib.hid hri
            have HBR := Lib.hid (St.brings_in HO.out g1)
            have hnz : (st.brings ((st.planN st.lots.toNat st.all).getD k bagZ) == 0) = false := by simpa using g2
            clear hri g1 g2
            generalize (st.planN st.lots.toNat st.all).getD k bagZ = x at c0 HRI HBR hnz ⊢
            obtain ⟨t0, t1, t2⟩ := Hr.out.q.s2
            go_wp2_with fail
            refine (rBrings_any st _ pA2 gA2 pc2 gc2 rA st.n rc x.at _ Hr.out.q.r2 HRI.out (by omega)).mono ?_
            rintro e wc ⟨rfl, hb⟩
            rw [HBR.out]
            have Hc := Lib.hid (Hr.out.later hb)
            have HPc := Lib.hid (HPr.out.later hb)
            clear hb c0 t0 t1 t2
            go_wp2_with fail
            go_roundw
            case rel => exact ⟨k + 1, by omega, by go_num, Hc, HPc⟩
            case measure => simp [intOf]; omega
          · obtain rfl : k = len := by omega
            have hge : ¬ (k : Int) < (k : Int) := by omega
            go_upto_region 28 with fail
            exact plans_rest2 st b1 b2 pA gA pA1 gA1 pA2 gA2 pc gc pc1 gc1 pc2 gc2 A qA lA mA m c qc ln lc mc L X W h1 h2 h3 h4 HLEN hmc _ Hr _ (by assumption)
      · have H0 := Lib.hid h0
        have et : (if st.check ≠ 0 then 0 else (st.choose st.lots.toNat st.all).2) = 0 := if_pos h0
        have hz1 : (st.check != st.check) = false := by simp
        have hz2 : (st.check == 0) = false := by simpa using h0
        have hz3 : (st.check != 0) = true := by simpa using h0
        clear h0
        go_wp2_with fail
        refine (rBest_any st _ pA2 gA2 pc2 gc2 _ H9.out.q.r2).mono ?_
        rintro e wa ⟨rfl, hb⟩
        rw [et]
        have Ha := Lib.hid (H9.out.later hb)
        clear hb t0 t1 t2 H9 et
        go_upto_region 28 with fail
        exact plans_rest2 st b1 b2 pA gA pA1 gA1 pA2 gA2 pc gc pc1 gc1 pc2 gc2 A qA lA mA m c qc ln lc mc L X W h1 h2 h3 h4 HLEN hmc _ Ha _ (by assumption)
  · have hh : ¬ st.sacks st.n ≤ 8 := by omega
    have hh2 : ¬ (4 : Int) < (st.n : Int) := by omega
    clear hgo
    have t0 := H8.out.q.s0.1
    go_upto_region 28 with fail
    exact plans_rest2 st b1 b2 pA gA pA1 gA1 pA2 gA2 pc gc pc1 gc1 pc2 gc2 A qA lA mA m c qc ln lc mc L X W h1 h2 h3 h4 HLEN hmc _ H8 _ (by assumption)

set_option maxRecDepth 100000 in
set_option maxHeartbeats 0 in
theorem plans_in (st : St) (B : Nat) (pA gA : Option Addr) (pc gc : Nat) (A : Option Addr) (m c : Nat) (L : Nat → Nat × (Nat → Int)) (lA : Option Addr) (ln lc : Nat) (X : Nat → Int) (W : World) (hs : StRow W B st pA pc gA gc) (hpl : PlanRow W W.heap.size A m L) (hl : IntRow W W.heap.size lA ln X) (h1 : st.n ≤ 6) (h2 : st.m ≤ 6) (h3 : ln ≤ 8) (hw : wideB m L = false) :
    Calls Try.prog 12 #[stV pA st.n pc gA st.m gc st.lots, .slice A m c, .slice lA ln lc] W fun e W' => e = .returned (.bool true) ∧ Below W.heap.size W W' := by
  have HS := Lib.hid hs; have HL := Lib.hid hl; have hB := hs.lt; clear hs hl
  have HPL := Lib.hid hpl
  have h4 : m ≤ 5 := by unfold wideB at hw; simp at hw; omega
  have HLEN : Hid (∀ k, k < m → (L k).1 ≤ 1000) := Lib.hid (fun k hk => by
    unfold wideB at hw
    simp only [Bool.or_eq_false_iff, Bool.not_eq_false'] at hw
    have := allN_iff.1 hw.1 k hk
    simp at this
    omega)
  clear hpl
  have hlong : (decide (6 < st.n) || decide (6 < st.m)) = false := by simp; omega
  have hln : ¬ (8 : Int) < (ln : Int) := by omega
  go_enter Try.func12, Try.ntmps12
  go_wp2_with fail
  refine (long_any pA gA st.n pc st.m gc st.lots _).mono ?_
  rintro e w1 ⟨rfl, hb1⟩
  rw [hlong]
  have HB1 := Lib.hid (show Below W.heap.size W w1 from (by repeat (first | (with_reducible exact Below.refl _ _) | (with_reducible refine Below.drew ?_) | (with_reducible refine below_drewN ?_ _) | ((with_reducible refine below_alloc ?_ ?_ _); · (first | exact Nat.le_refl _ | omega | (simp; done) | (simp; omega) | (simp at *; omega))) | ((with_reducible refine below_set ?_ ?_ _); · (first | exact Nat.le_refl _ | omega | (simp; done) | (simp; omega) | (simp at *; omega))) | ((with_reducible refine below_via (by with_reducible assumption) ?_ ?_); · (first | exact Nat.le_refl _ | omega | (simp; done) | (simp; omega) | (simp at *; omega))))))
  have hs1 := hb1.size
  simp only [World.size_alloc] at hs1
  have a0 : w1.cell? ⟨W.heap.size, 0, none⟩ = some (.slice pA st.n pc) := cell_below_of hb1 (by (repeat' refine And.intro ?_ ?_) <;> (repeat (first | (with_reducible assumption) | (simp; done) | (with_reducible refine cell_drew_of ?_) | (with_reducible refine cell_drewN_of ?_) | (with_reducible refine cell_below_of (by with_reducible assumption) ?_) | ((with_reducible refine cell_new_of ?_ ?_) <;> (first | (with_reducible rfl) | (simp; done))) | ((with_reducible refine fro_new_of ?_) <;> (first | (with_reducible rfl) | (simp; done))) | (with_reducible refine cell_alloc_of _ ?_) | (with_reducible refine cell_set_of _ (by (first | exact Nat.le_refl _ | omega | (simp; done) | (simp; omega))) ?_) | (with_reducible refine fro_drew_of ?_) | (with_reducible refine fro_drewN_of ?_) | (with_reducible refine fro_below_of (by with_reducible assumption) (by (first | exact Nat.le_refl _ | omega | (simp; done) | (simp; omega))) ?_) | (with_reducible refine fro_alloc_of _ (by (first | exact Nat.le_refl _ | omega | (simp; done) | (simp; omega))) ?_) | (with_reducible refine fro_set_of _ ?_))))
  have a1 : w1.cell? ⟨W.heap.size, 1, none⟩ = some (.slice gA st.m gc) := cell_below_of hb1 (by (repeat' refine And.intro ?_ ?_) <;> (repeat (first | (with_reducible assumption) | (simp; done) | (with_reducible refine cell_drew_of ?_) | (with_reducible refine cell_drewN_of ?_) | (with_reducible refine cell_below_of (by with_reducible assumption) ?_) | ((with_reducible refine cell_new_of ?_ ?_) <;> (first | (with_reducible rfl) | (simp; done))) | ((with_reducible refine fro_new_of ?_) <;> (first | (with_reducible rfl) | (simp; done))) | (with_reducible refine cell_alloc_of _ ?_) | (with_reducible refine cell_set_of _ (by (first | exact Nat.le_refl _ | omega | (simp; done) | (simp; omega))) ?_) | (with_reducible refine fro_drew_of ?_) | (with_reducible refine fro_drewN_of ?_) | (with_reducible refine fro_below_of (by with_reducible assumption) (by (first | exact Nat.le_refl _ | omega | (simp; done) | (simp; omega))) ?_) | (with_reducible refine fro_alloc_of _ (by (first | exact Nat.le_refl _ | omega | (simp; done) | (simp; omega))) ?_) | (with_reducible refine fro_set_of _ ?_))))
  have a2 : w1.cell? ⟨W.heap.size, 2, none⟩ = some (.int .i64 st.lots) := cell_below_of hb1 (by (repeat' refine And.intro ?_ ?_) <;> (repeat (first | (with_reducible assumption) | (simp; done) | (with_reducible refine cell_drew_of ?_) | (with_reducible refine cell_drewN_of ?_) | (with_reducible refine cell_below_of (by with_reducible assumption) ?_) | ((with_reducible refine cell_new_of ?_ ?_) <;> (first | (with_reducible rfl) | (simp; done))) | ((with_reducible refine fro_new_of ?_) <;> (first | (with_reducible rfl) | (simp; done))) | (with_reducible refine cell_alloc_of _ ?_) | (with_reducible refine cell_set_of _ (by (first | exact Nat.le_refl _ | omega | (simp; done) | (simp; omega))) ?_) | (with_reducible refine fro_drew_of ?_) | (with_reducible refine fro_drewN_of ?_) | (with_reducible refine fro_below_of (by with_reducible assumption) (by (first | exact Nat.le_refl _ | omega | (simp; done) | (simp; omega))) ?_) | (with_reducible refine fro_alloc_of _ (by (first | exact Nat.le_refl _ | omega | (simp; done) | (simp; omega))) ?_) | (with_reducible refine fro_set_of _ ?_))))
  have HA := Lib.hid (show _ ∧ _ ∧ _ from ⟨a0, a1, a2⟩)
  clear hb1 a0 a1 a2
  go_wp2_with fail
  refine (wide_any A m c L _ (HPL.out.later HB1.out) (by omega)).mono ?_
  rintro e w2 ⟨rfl, hb⟩
  rw [hw]
  have HB2 := Lib.hid (HB1.out.trans (hb.mono HB1.out.size))
  have HA2 := Lib.hid (show _ ∧ _ ∧ _ from ⟨cell_below_of hb HA.out.1, cell_below_of hb HA.out.2.1, cell_below_of hb HA.out.2.2⟩)
  have hs2 : W.heap.size + 1 ≤ w2.heap.size := by have := hb.size; omega
  clear hb hw
  go_upto_region 3 with fail
  refine plans_reg st B pA gA pc gc A m c L lA ln lc X W w2 HS hB HL HPL HLEN h1 h2 h3 h4 HB2 hs2 HA2 _ _ _ ?_
  intro b1 b2 pA1 gA1 pA2 gA2 pc1 gc1 pc2 gc2 qA qc mA mc v38 v39 v40 v41 v42 v43 v44 v45 wx ⟨H2, hmc⟩
  go_upto_region 4 with fail
  exact plans_rest1 st b1 b2 pA gA pA1 gA1 pA2 gA2 pc gc pc1 gc1 pc2 gc2 A qA lA mA m c qc ln lc mc L X W h1 h2 h3 h4 HLEN hmc _ H2 _ (by assumption)

set_option maxRecDepth 100000 in
set_option maxHeartbeats 1000000 in
theorem plans_long0 (st : St) (pA gA : Option Addr) (pc gc : Nat) (A : Option Addr) (m c : Nat) (L : Nat → Nat × (Nat → Int)) (lA : Option Addr) (ln lc : Nat) (W : World) (hpl : PlanRow W W.heap.size A m L) (hmx : m ≤ 9223372036854775807) (h1 : (decide (6 < st.n) || decide (6 < st.m)) = true) :
    Calls Try.prog 12 #[stV pA st.n pc gA st.m gc st.lots, .slice A m c, .slice lA ln lc] W fun e W' => e = .returned (.bool true) ∧ Below W.heap.size W W' := by
  have HPL := Lib.hid hpl
  clear hpl
  go_enter Try.func12, Try.ntmps12
  go_wp2_with fail
  refine (long_any pA gA st.n pc st.m gc st.lots _).mono ?_
  rintro e w1 ⟨rfl, hb1⟩
  rw [h1]
  have HB1 := Lib.hid (show Below W.heap.size W w1 from (by repeat (first | (with_reducible exact Below.refl _ _) | (with_reducible refine Below.drew ?_) | (with_reducible refine below_drewN ?_ _) | ((with_reducible refine below_alloc ?_ ?_ _); · (first | exact Nat.le_refl _ | omega | (simp; done) | (simp; omega) | (simp at *; omega))) | ((with_reducible refine below_set ?_ ?_ _); · (first | exact Nat.le_refl _ | omega | (simp; done) | (simp; omega) | (simp at *; omega))) | ((with_reducible refine below_via (by with_reducible assumption) ?_ ?_); · (first | exact Nat.le_refl _ | omega | (simp; done) | (simp; omega) | (simp at *; omega))))))
  clear hb1
  go_wp2_with fail
  refine (awake_any _).mono ?_
  rintro e w3 ⟨rfl, hb2⟩
  have HB3 := Lib.hid (HB1.out.trans (hb2.mono HB1.out.size))
  clear hb2
  go_wp2_with fail
  go_ret
  exact ⟨rfl, HB3.out⟩
set_option maxRecDepth 100000 in
set_option maxHeartbeats 1000000 in
theorem plans_long1 (st : St) (pA gA : Option Addr) (pc gc : Nat) (A : Option Addr) (m c : Nat) (L : Nat → Nat × (Nat → Int)) (lA : Option Addr) (ln lc : Nat) (W : World) (hpl : PlanRow W W.heap.size A m L) (hmx : m ≤ 9223372036854775807) (h1 : (decide (6 < st.n) || decide (6 < st.m)) = false) (hw : wideB m L = true) :
    Calls Try.prog 12 #[stV pA st.n pc gA st.m gc st.lots, .slice A m c, .slice lA ln lc] W fun e W' => e = .returned (.bool true) ∧ Below W.heap.size W W' := by
  have HPL := Lib.hid hpl
  clear hpl
  go_enter Try.func12, Try.ntmps12
  go_wp2_with fail
  refine (long_any pA gA st.n pc st.m gc st.lots _).mono ?_
  rintro e w1 ⟨rfl, hb1⟩
  rw [h1]
  have HB1 := Lib.hid (show Below W.heap.size W w1 from (by repeat (first | (with_reducible exact Below.refl _ _) | (with_reducible refine Below.drew ?_) | (with_reducible refine below_drewN ?_ _) | ((with_reducible refine below_alloc ?_ ?_ _); · (first | exact Nat.le_refl _ | omega | (simp; done) | (simp; omega) | (simp at *; omega))) | ((with_reducible refine below_set ?_ ?_ _); · (first | exact Nat.le_refl _ | omega | (simp; done) | (simp; omega) | (simp at *; omega))) | ((with_reducible refine below_via (by with_reducible assumption) ?_ ?_); · (first | exact Nat.le_refl _ | omega | (simp; done) | (simp; omega) | (simp at *; omega))))))
  clear hb1
  go_wp2_with fail
  refine (wide_any A m c L _ (HPL.out.later HB1.out) hmx).mono ?_
  rintro e w2 ⟨rfl, hb⟩
  rw [hw]
  have HB1 := Lib.hid (HB1.out.trans (hb.mono HB1.out.size))
  clear hb hw
  go_wp2_with fail
  refine (awake_any _).mono ?_
  rintro e w3 ⟨rfl, hb2⟩
  have HB3 := Lib.hid (HB1.out.trans (hb2.mono HB1.out.size))
  clear hb2
  go_wp2_with fail
  go_ret
  exact ⟨rfl, HB3.out⟩
set_option maxRecDepth 100000 in
set_option maxHeartbeats 1000000 in
theorem plans_long2 (st : St) (pA gA : Option Addr) (pc gc : Nat) (A : Option Addr) (m c : Nat) (L : Nat → Nat × (Nat → Int)) (lA : Option Addr) (ln lc : Nat) (W : World) (hpl : PlanRow W W.heap.size A m L) (hmx : m ≤ 9223372036854775807) (h1 : (decide (6 < st.n) || decide (6 < st.m)) = false) (hw : wideB m L = false) (h : (8 : Int) < (ln : Int)) :
    Calls Try.prog 12 #[stV pA st.n pc gA st.m gc st.lots, .slice A m c, .slice lA ln lc] W fun e W' => e = .returned (.bool true) ∧ Below W.heap.size W W' := by
  have HPL := Lib.hid hpl
  clear hpl
  go_enter Try.func12, Try.ntmps12
  go_wp2_with fail
  refine (long_any pA gA st.n pc st.m gc st.lots _).mono ?_
  rintro e w1 ⟨rfl, hb1⟩
  rw [h1]
  have HB1 := Lib.hid (show Below W.heap.size W w1 from (by repeat (first | (with_reducible exact Below.refl _ _) | (with_reducible refine Below.drew ?_) | (with_reducible refine below_drewN ?_ _) | ((with_reducible refine below_alloc ?_ ?_ _); · (first | exact Nat.le_refl _ | omega | (simp; done) | (simp; omega) | (simp at *; omega))) | ((with_reducible refine below_set ?_ ?_ _); · (first | exact Nat.le_refl _ | omega | (simp; done) | (simp; omega) | (simp at *; omega))) | ((with_reducible refine below_via (by with_reducible assumption) ?_ ?_); · (first | exact Nat.le_refl _ | omega | (simp; done) | (simp; omega) | (simp at *; omega))))))
  clear hb1
  go_wp2_with fail
  refine (wide_any A m c L _ (HPL.out.later HB1.out) hmx).mono ?_
  rintro e w2 ⟨rfl, hb⟩
  rw [hw]
  have HB1 := Lib.hid (HB1.out.trans (hb.mono HB1.out.size))
  clear hb hw
  go_wp2_with fail
  refine (awake_any _).mono ?_
  rintro e w3 ⟨rfl, hb2⟩
  have HB3 := Lib.hid (HB1.out.trans (hb2.mono HB1.out.size))
  clear hb2
  go_wp2_with fail
  go_ret
  exact ⟨rfl, HB3.out⟩
theorem lplans_any (st : St) (pA gA : Option Addr) (pc gc : Nat) (A : Option Addr) (m c : Nat) (L : Nat → Nat × (Nat → Int)) (lA : Option Addr) (ln lc : Nat) (X : Nat → Int) (W : World) (hp : PkRow W W.heap.size pA st.n st.P) (hg : GdRow W W.heap.size gA st.m st.G) (hpl : PlanRow W W.heap.size A m L) (hl : IntRow W W.heap.size lA ln X) (hpc : st.n ≤ pc) (hgc : st.m ≤ gc) (hmx : m ≤ 9223372036854775807) :
    Calls Try.prog 12 #[stV pA st.n pc gA st.m gc st.lots, .slice A m c, .slice lA ln lc] W fun e W' => e = .returned (.bool true) ∧ Below W.heap.size W W' := by
  cases h1 : (decide (6 < st.n) || decide (6 < st.m)) with
  | true => exact plans_long0 st pA gA pc gc A m c L lA ln lc W hpl hmx h1
  | false =>
    cases hw : wideB m L with
    | true => exact plans_long1 st pA gA pc gc A m c L lA ln lc W hpl hmx h1 hw
    | false =>
      by_cases h3 : (8 : Int) < (ln : Int)
      · exact plans_long2 st pA gA pc gc A m c L lA ln lc W hpl hmx h1 hw h3
      · have h5 : st.n ≤ 6 ∧ st.m ≤ 6 := by simp at h1; omega
        exact plans_in st W.heap.size pA gA pc gc A m c L lA ln lc X W ⟨Nat.le_refl _, hp, hg, by omega, by omega, hpc, hgc⟩ hpl hl h5.1 h5.2 (by omega) hw
end Go.Proofs.Ytegmomappbehcaa
