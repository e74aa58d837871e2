/- Bundles of facts on cells, carried over calls whole. -/
import Derived.Test.YtmbkngfcbgbeiaaGreatWj
import Derived.Deep.DeepCutAuto
namespace Go.Proofs.YtmbkngfcbgbeiaaGreat
open Go.RowKit Go.Shelf

theorem lay_in {A B : Prop} (a : A) (f : A → B) : B := f a
theorem fro_below_cell {w w1 : World} {a : Addr} {v : Value} (hb : Below w.heap.size w w1) (hc : w.cell? a = some v) (h : w.frozen? a = false) : w1.frozen? a = false :=
  fro_below_of hb (World.block_lt_of_cell? w a hc) h

/-- a block's first cells hold zeros, and may be written -/
def Z1 (w : World) (b : Nat) : Prop := w.cell? ⟨b, 0, none⟩ = some (.int .i64 0) ∧ w.frozen? ⟨b, 0, none⟩ = false
def Z2 (w : World) (b : Nat) : Prop := (w.cell? ⟨b, 0, none⟩ = some (.int .i64 0) ∧ w.cell? ⟨b, 1, none⟩ = some (.int .i64 0)) ∧ w.frozen? ⟨b, 0, none⟩ = false ∧ w.frozen? ⟨b, 1, none⟩ = false
def Z4 (w : World) (b : Nat) : Prop := (w.cell? ⟨b, 0, none⟩ = some (.int .i64 0) ∧ w.cell? ⟨b, 1, none⟩ = some (.int .i64 0) ∧ w.cell? ⟨b, 2, none⟩ = some (.int .i64 0) ∧ w.cell? ⟨b, 3, none⟩ = some (.int .i64 0)) ∧
  w.frozen? ⟨b, 0, none⟩ = false ∧ w.frozen? ⟨b, 1, none⟩ = false ∧ w.frozen? ⟨b, 2, none⟩ = false ∧ w.frozen? ⟨b, 3, none⟩ = false
/-- a block holds a bag, and may be written -/
def BagAt (w : World) (b : Nat) (x : Bag) : Prop := (w.cell? ⟨b, 0, none⟩ = some (.int .i64 x.a) ∧ w.cell? ⟨b, 1, none⟩ = some (.int .i64 x.b) ∧ w.cell? ⟨b, 2, none⟩ = some (.int .i64 x.c) ∧ w.cell? ⟨b, 3, none⟩ = some (.int .i64 x.d)) ∧
  w.frozen? ⟨b, 0, none⟩ = false ∧ w.frozen? ⟨b, 1, none⟩ = false ∧ w.frozen? ⟨b, 2, none⟩ = false ∧ w.frozen? ⟨b, 3, none⟩ = false
/-- a block holds two numbers, and may be written -/
def N2At (w : World) (b : Nat) (m n : Int) : Prop := (w.cell? ⟨b, 0, none⟩ = some (.int .i64 m) ∧ w.cell? ⟨b, 1, none⟩ = some (.int .i64 n)) ∧ w.frozen? ⟨b, 0, none⟩ = false ∧ w.frozen? ⟨b, 1, none⟩ = false
def N1At (w : World) (b : Nat) (m : Int) : Prop := w.cell? ⟨b, 0, none⟩ = some (.int .i64 m) ∧ w.frozen? ⟨b, 0, none⟩ = false
/-- a block's first cell holds a value, and may be written -/
def V1At (w : World) (b : Nat) (v : Value) : Prop := w.cell? ⟨b, 0, none⟩ = some v ∧ w.frozen? ⟨b, 0, none⟩ = false
/-- a store's value boxed -/
def StAt (w : World) (b : Nat) (pA : Option Addr) (n pc : Nat) (gA : Option Addr) (m gc : Nat) (l : Int) : Prop :=
  w.cell? ⟨b, 0, none⟩ = some (.slice pA n pc) ∧ w.cell? ⟨b, 1, none⟩ = some (.slice gA m gc) ∧ w.cell? ⟨b, 2, none⟩ = some (.int .i64 l)

section
variable {w w' : World} {b : Nat} {x : Bag} {m n : Int} {v : Value}
theorem Z1.later (h : Z1 w b) (hb : Below w.heap.size w w') : Z1 w' b := ⟨cell_below_of hb h.1, fro_below_cell hb h.1 h.2⟩
theorem Z2.later (h : Z2 w b) (hb : Below w.heap.size w w') : Z2 w' b := ⟨⟨cell_below_of hb h.1.1, cell_below_of hb h.1.2⟩, fro_below_cell hb h.1.1 h.2.1, fro_below_cell hb h.1.2 h.2.2⟩
theorem Z4.later (h : Z4 w b) (hb : Below w.heap.size w w') : Z4 w' b :=
  ⟨⟨cell_below_of hb h.1.1, cell_below_of hb h.1.2.1, cell_below_of hb h.1.2.2.1, cell_below_of hb h.1.2.2.2⟩, fro_below_cell hb h.1.1 h.2.1, fro_below_cell hb h.1.2.1 h.2.2.1, fro_below_cell hb h.1.2.2.1 h.2.2.2.1, fro_below_cell hb h.1.2.2.2 h.2.2.2.2⟩
theorem BagAt.later (h : BagAt w b x) (hb : Below w.heap.size w w') : BagAt w' b x :=
  ⟨⟨cell_below_of hb h.1.1, cell_below_of hb h.1.2.1, cell_below_of hb h.1.2.2.1, cell_below_of hb h.1.2.2.2⟩, fro_below_cell hb h.1.1 h.2.1, fro_below_cell hb h.1.2.1 h.2.2.1, fro_below_cell hb h.1.2.2.1 h.2.2.2.1, fro_below_cell hb h.1.2.2.2 h.2.2.2.2⟩
theorem N2At.later (h : N2At w b m n) (hb : Below w.heap.size w w') : N2At w' b m n := ⟨⟨cell_below_of hb h.1.1, cell_below_of hb h.1.2⟩, fro_below_cell hb h.1.1 h.2.1, fro_below_cell hb h.1.2 h.2.2⟩
theorem N1At.later (h : N1At w b m) (hb : Below w.heap.size w w') : N1At w' b m := ⟨cell_below_of hb h.1, fro_below_cell hb h.1 h.2⟩
theorem V1At.later (h : V1At w b v) (hb : Below w.heap.size w w') : V1At w' b v := ⟨cell_below_of hb h.1, fro_below_cell hb h.1 h.2⟩
theorem StAt.later {pA gA : Option Addr} {n pc m gc : Nat} {l : Int} (h : StAt w b pA n pc gA m gc l) (hb : Below w.heap.size w w') : StAt w' b pA n pc gA m gc l := ⟨cell_below_of hb h.1, cell_below_of hb h.2.1, cell_below_of hb h.2.2⟩
end
theorem DeskOf.set' {w : World} {B db : Nat} {st : St} {p : Addr} {u : Value} (hp : B ≤ p.block) (hne : p.block ≠ db) (h : DeskOf w B db st) : DeskOf (w.setCell p u) B db st := h.set hp hne u
theorem DeskOf.alloc' {w : World} {B db : Nat} {st : St} {o : Obj} (hB : B ≤ w.heap.size) (h : DeskOf w B db st) : DeskOf (w.alloc o) B db st := h.alloc hB o

/-! ### by the block's being as it was -/
section
variable {w w' : World} {b : Nat} {x : Bag} {m n : Int} {v : Value}
theorem cell_same {o : Nat} (hb : w'.heap[b]? = w.heap[b]?) (h : w.cell? ⟨b, o, none⟩ = some v) : w'.cell? ⟨b, o, none⟩ = some v := (World.cell?_of_block hb).trans h
theorem fro_same {o : Nat} (hb : w'.heap[b]? = w.heap[b]?) (h : w.frozen? ⟨b, o, none⟩ = false) : w'.frozen? ⟨b, o, none⟩ = false := (World.frozen?_of_block hb).trans h
theorem Z2.same (h : Z2 w b) (hb : w'.heap[b]? = w.heap[b]?) : Z2 w' b := ⟨⟨cell_same hb h.1.1, cell_same hb h.1.2⟩, fro_same hb h.2.1, fro_same hb h.2.2⟩
theorem BagAt.same (h : BagAt w b x) (hb : w'.heap[b]? = w.heap[b]?) : BagAt w' b x :=
  ⟨⟨cell_same hb h.1.1, cell_same hb h.1.2.1, cell_same hb h.1.2.2.1, cell_same hb h.1.2.2.2⟩, fro_same hb h.2.1, fro_same hb h.2.2.1, fro_same hb h.2.2.2.1, fro_same hb h.2.2.2.2⟩
theorem N2At.same (h : N2At w b m n) (hb : w'.heap[b]? = w.heap[b]?) : N2At w' b m n := ⟨⟨cell_same hb h.1.1, cell_same hb h.1.2⟩, fro_same hb h.2.1, fro_same hb h.2.2⟩
theorem N1At.same (h : N1At w b m) (hb : w'.heap[b]? = w.heap[b]?) : N1At w' b m := ⟨cell_same hb h.1, fro_same hb h.2⟩
theorem V1At.same (h : V1At w b v) (hb : w'.heap[b]? = w.heap[b]?) : V1At w' b v := ⟨cell_same hb h.1, fro_same hb h.2⟩
theorem StAt.same {pA gA : Option Addr} {n pc m gc : Nat} {l : Int} (h : StAt w b pA n pc gA m gc l) (hb : w'.heap[b]? = w.heap[b]?) : StAt w' b pA n pc gA m gc l := ⟨cell_same hb h.1, cell_same hb h.2.1, cell_same hb h.2.2⟩
theorem N1At.lt (h : N1At w b m) : b < w.heap.size := World.block_lt_of_cell? w _ h.1
theorem V1At.lt (h : V1At w b v) : b < w.heap.size := World.block_lt_of_cell? w _ h.1
theorem BagAt.lt (h : BagAt w b x) : b < w.heap.size := World.block_lt_of_cell? w _ h.1.1
theorem StAt.lt {pA gA : Option Addr} {n pc m gc : Nat} {l : Int} (h : StAt w b pA n pc gA m gc l) : b < w.heap.size := World.block_lt_of_cell? w _ h.1
theorem DeskOf.below {B db N : Nat} {st : St} (h : DeskOf w B db st) (hb : Below N w w') (h1 : B ≤ N) (h2 : db < N) (hs : w.heap.size ≤ w'.heap.size) : DeskOf w' B db st :=
  h.keep hs (fun i hi => hb.block i (by rcases hi with hi | rfl <;> omega))
end

/-- a bag stored into a block -/
def putBag (w : World) (b : Nat) (x : Bag) : World := (((w.setCell ⟨b, 0, none⟩ (.int .i64 x.a)).setCell ⟨b, 1, none⟩ (.int .i64 x.b)).setCell ⟨b, 2, none⟩ (.int .i64 x.c)).setCell ⟨b, 3, none⟩ (.int .i64 x.d)
theorem putBag_at {w : World} {b : Nat} {x y : Bag} (h : BagAt w b y) : BagAt (putBag w b x) b x := by
  obtain ⟨⟨h0, h1, h2, h3⟩, f0, f1, f2, f3⟩ := h
  unfold putBag
  refine ⟨⟨?_, ?_, ?_, ?_⟩, fro_set_of _ (fro_set_of _ (fro_set_of _ (fro_set_of _ f0))), fro_set_of _ (fro_set_of _ (fro_set_of _ (fro_set_of _ f1))), fro_set_of _ (fro_set_of _ (fro_set_of _ (fro_set_of _ f2))), fro_set_of _ (fro_set_of _ (fro_set_of _ (fro_set_of _ f3)))⟩ <;> simp [go_sem, h0, h1, h2, h3]
theorem putBag_heap (w : World) (b : Nat) (x : Bag) {k : Nat} (hk : k ≠ b) : (putBag w b x).heap[k]? = w.heap[k]? := by
  unfold putBag
  rw [Below.heap_setCell _ _ _ _ hk, Below.heap_setCell _ _ _ _ hk, Below.heap_setCell _ _ _ _ hk, Below.heap_setCell _ _ _ _ hk]
theorem putBag_size (w : World) (b : Nat) (x : Bag) : (putBag w b x).heap.size = w.heap.size := by simp [putBag, World.setCell]
theorem putBag_below {w : World} {b : Nat} (B : Nat) (x : Bag) (h : B ≤ b) : Below B w (putBag w b x) := ((((Below.refl B w).setCell (p := ⟨b, 0, none⟩) h _).setCell (p := ⟨b, 1, none⟩) h _).setCell (p := ⟨b, 2, none⟩) h _).setCell (p := ⟨b, 3, none⟩) h _
end Go.Proofs.YtmbkngfcbgbeiaaGreat
