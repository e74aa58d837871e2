/- The law BinMore: its loop over the order. -/
import Derived.Test.YtnnikeolgknfoaaE4
import Derived.Test.YtnnikeolgknfoaaR
import Derived.Test.YtnnikeolgknfoaaBk
import Derived.Test.YtnnikeolgknfoaaD3
import Derived.Test.YtnnikeolgknfoaaF1
import Derived.Test.YtnnikeolgknfoaaJe
import Derived.Test.YtnnikeolgknfoaaNq
set_option linter.unusedSimpArgs false
set_option linter.unusedVariables false
namespace Go.Proofs.Ytnnikeolgknfoaa
open Go.RowKit Go.Shelf

theorem OwnBn.below_of {w : World} {lo n : Nat} {A : Option Addr} {P : Nat → Bn} (h : OwnBn w lo A n P) (hn : 1 ≤ n) : ∀ a, A = some a → a.block < w.heap.size := fun a ha => by
  obtain ⟨b, hA, hb, h1, _⟩ := h 0 (by omega)
  rw [ha] at hA
  injection hA with hA
  subst hA
  exact World.block_lt_of_cell? w _ h1
theorem OwnInt.below_of {w : World} {lo n : Nat} {A : Option Addr} {P : Nat → Int} (h : OwnInt w lo A n P) (hn : 1 ≤ n) : ∀ a, A = some a → a.block < w.heap.size := fun a ha => by
  obtain ⟨b, hA, hb, h1, _⟩ := h 0 (by omega)
  rw [ha] at hA
  injection hA with hA
  subst hA
  exact World.block_lt_of_cell? w _ h1
def OwnPost2 (r : Rw) (W : World) (e : Ending) (W' : World) : Prop :=
  ∃ (bA dA vA : Option Addr) (bc dc vc m : Nat), e = .returned (rwV bA r.n bc dA r.d dc vA r.m vc) ∧ W.heap.size ≤ m ∧ (∀ a, bA = some a → a.block < m) ∧ (∀ a, dA = some a → a.block < m) ∧ OwnBn W' W.heap.size bA r.n r.B ∧ OwnInt W' W.heap.size dA r.d r.D ∧ W'.ownsRow m 35 4 (.slice vA r.m vc) r.m (rowC wgC r.V r.m) ∧ (r.n ≤ bc ∧ r.d ≤ dc ∧ r.m ≤ vc) ∧ Below W.heap.size W W' ∧ ∃ m0, W.heap.size ≤ m0 ∧ m0 ≤ m ∧ (∀ a, bA = some a → a.block < m0) ∧ W'.ownsRow m0 58 1 (.slice dA r.d dc) r.d (numCells r.D r.d)

set_option maxRecDepth 100000 in
set_option maxHeartbeats 4000000 in
theorem own2_any (r : Rw) (h1n : 1 ≤ r.n) (h1d : 1 ≤ r.d) (bA dA vA : Option Addr) (bc dc vc : Nat) (W : World) (hrow : RwRow W W.heap.size r bA bc dA dc vA vc) :
    Calls Try.prog 10 #[rwV bA r.n bc dA r.d dc vA r.m vc] W (OwnPost2 r W) := by
  have H0 := Lib.hid hrow
  have hn := hrow.n1
  have hd := hrow.d1
  have hm := hrow.m1
  clear hrow
  go_enter Try.func10, Try.ntmps10
  go_upto_region 1 with fail
  refine wp_world (fun W1 => (W1.cell? ⟨W.heap.size, 0, none⟩ = some (.slice bA r.n bc) ∧ W1.cell? ⟨W.heap.size, 1, none⟩ = some (.slice dA r.d dc) ∧ W1.cell? ⟨W.heap.size, 2, none⟩ = some (.slice vA r.m vc)) ∧ V3 W1 (W.heap.size + 1) (.slice none 0 0) (.slice none 0 0) (.slice none 0 0) ∧ Below W.heap.size W W1 ∧ W.heap.size + 2 ≤ W1.heap.size) ⟨(by (repeat' refine And.intro ?_ ?_) <;> (repeat (first | (with_reducible assumption) | (simp; done) | (with_reducible refine cell_drew_of ?_) | (with_reducible refine cell_drewN_of ?_) | (with_reducible refine cell_below_of (by with_reducible assumption) ?_) | ((with_reducible refine cell_new_of ?_ ?_) <;> (first | (with_reducible rfl) | (simp; done))) | ((with_reducible refine fro_new_of ?_) <;> (first | (with_reducible rfl) | (simp; done))) | (with_reducible refine cell_alloc_of _ ?_) | (with_reducible refine cell_set_of _ (by (first | exact Nat.le_refl _ | omega | (simp; done) | (simp; omega))) ?_) | (with_reducible refine fro_drew_of ?_) | (with_reducible refine fro_drewN_of ?_) | (with_reducible refine fro_below_of (by with_reducible assumption) (by (first | exact Nat.le_refl _ | omega | (simp; done) | (simp; omega))) ?_) | (with_reducible refine fro_alloc_of _ (by (first | exact Nat.le_refl _ | omega | (simp; done) | (simp; omega))) ?_) | (with_reducible refine fro_set_of _ ?_)))), ⟨(by (repeat' refine And.intro ?_ ?_) <;> (repeat (first | (with_reducible assumption) | (simp; done) | (with_reducible refine cell_drew_of ?_) | (with_reducible refine cell_drewN_of ?_) | (with_reducible refine cell_below_of (by with_reducible assumption) ?_) | ((with_reducible refine cell_new_of ?_ ?_) <;> (first | (with_reducible rfl) | (simp; done))) | ((with_reducible refine fro_new_of ?_) <;> (first | (with_reducible rfl) | (simp; done))) | (with_reducible refine cell_alloc_of _ ?_) | (with_reducible refine cell_set_of _ (by (first | exact Nat.le_refl _ | omega | (simp; done) | (simp; omega))) ?_) | (with_reducible refine fro_drew_of ?_) | (with_reducible refine fro_drewN_of ?_) | (with_reducible refine fro_below_of (by with_reducible assumption) (by (first | exact Nat.le_refl _ | omega | (simp; done) | (simp; omega))) ?_) | (with_reducible refine fro_alloc_of _ (by (first | exact Nat.le_refl _ | omega | (simp; done) | (simp; omega))) ?_) | (with_reducible refine fro_set_of _ ?_)))), (by (repeat' refine And.intro ?_ ?_) <;> (repeat (first | (with_reducible assumption) | (simp; done) | (with_reducible refine cell_drew_of ?_) | (with_reducible refine cell_drewN_of ?_) | (with_reducible refine cell_below_of (by with_reducible assumption) ?_) | ((with_reducible refine cell_new_of ?_ ?_) <;> (first | (with_reducible rfl) | (simp; done))) | ((with_reducible refine fro_new_of ?_) <;> (first | (with_reducible rfl) | (simp; done))) | (with_reducible refine cell_alloc_of _ ?_) | (with_reducible refine cell_set_of _ (by (first | exact Nat.le_refl _ | omega | (simp; done) | (simp; omega))) ?_) | (with_reducible refine fro_drew_of ?_) | (with_reducible refine fro_drewN_of ?_) | (with_reducible refine fro_below_of (by with_reducible assumption) (by (first | exact Nat.le_refl _ | omega | (simp; done) | (simp; omega))) ?_) | (with_reducible refine fro_alloc_of _ (by (first | exact Nat.le_refl _ | omega | (simp; done) | (simp; omega))) ?_) | (with_reducible refine fro_set_of _ ?_)))), (by (repeat' refine And.intro ?_ ?_) <;> (repeat (first | (with_reducible assumption) | (simp; done) | (with_reducible refine cell_drew_of ?_) | (with_reducible refine cell_drewN_of ?_) | (with_reducible refine cell_below_of (by with_reducible assumption) ?_) | ((with_reducible refine cell_new_of ?_ ?_) <;> (first | (with_reducible rfl) | (simp; done))) | ((with_reducible refine fro_new_of ?_) <;> (first | (with_reducible rfl) | (simp; done))) | (with_reducible refine cell_alloc_of _ ?_) | (with_reducible refine cell_set_of _ (by (first | exact Nat.le_refl _ | omega | (simp; done) | (simp; omega))) ?_) | (with_reducible refine fro_drew_of ?_) | (with_reducible refine fro_drewN_of ?_) | (with_reducible refine fro_below_of (by with_reducible assumption) (by (first | exact Nat.le_refl _ | omega | (simp; done) | (simp; omega))) ?_) | (with_reducible refine fro_alloc_of _ (by (first | exact Nat.le_refl _ | omega | (simp; done) | (simp; omega))) ?_) | (with_reducible refine fro_set_of _ ?_)))), (by (repeat' refine And.intro ?_ ?_) <;> (repeat (first | (with_reducible assumption) | (simp; done) | (with_reducible refine cell_drew_of ?_) | (with_reducible refine cell_drewN_of ?_) | (with_reducible refine cell_below_of (by with_reducible assumption) ?_) | ((with_reducible refine cell_new_of ?_ ?_) <;> (first | (with_reducible rfl) | (simp; done))) | ((with_reducible refine fro_new_of ?_) <;> (first | (with_reducible rfl) | (simp; done))) | (with_reducible refine cell_alloc_of _ ?_) | (with_reducible refine cell_set_of _ (by (first | exact Nat.le_refl _ | omega | (simp; done) | (simp; omega))) ?_) | (with_reducible refine fro_drew_of ?_) | (with_reducible refine fro_drewN_of ?_) | (with_reducible refine fro_below_of (by with_reducible assumption) (by (first | exact Nat.le_refl _ | omega | (simp; done) | (simp; omega))) ?_) | (with_reducible refine fro_alloc_of _ (by (first | exact Nat.le_refl _ | omega | (simp; done) | (simp; omega))) ?_) | (with_reducible refine fro_set_of _ ?_)))), (by (repeat' refine And.intro ?_ ?_) <;> (repeat (first | (with_reducible assumption) | (simp; done) | (with_reducible refine cell_drew_of ?_) | (with_reducible refine cell_drewN_of ?_) | (with_reducible refine cell_below_of (by with_reducible assumption) ?_) | ((with_reducible refine cell_new_of ?_ ?_) <;> (first | (with_reducible rfl) | (simp; done))) | ((with_reducible refine fro_new_of ?_) <;> (first | (with_reducible rfl) | (simp; done))) | (with_reducible refine cell_alloc_of _ ?_) | (with_reducible refine cell_set_of _ (by (first | exact Nat.le_refl _ | omega | (simp; done) | (simp; omega))) ?_) | (with_reducible refine fro_drew_of ?_) | (with_reducible refine fro_drewN_of ?_) | (with_reducible refine fro_below_of (by with_reducible assumption) (by (first | exact Nat.le_refl _ | omega | (simp; done) | (simp; omega))) ?_) | (with_reducible refine fro_alloc_of _ (by (first | exact Nat.le_refl _ | omega | (simp; done) | (simp; omega))) ?_) | (with_reducible refine fro_set_of _ ?_)))), (by (repeat' refine And.intro ?_ ?_) <;> (repeat (first | (with_reducible assumption) | (simp; done) | (with_reducible refine cell_drew_of ?_) | (with_reducible refine cell_drewN_of ?_) | (with_reducible refine cell_below_of (by with_reducible assumption) ?_) | ((with_reducible refine cell_new_of ?_ ?_) <;> (first | (with_reducible rfl) | (simp; done))) | ((with_reducible refine fro_new_of ?_) <;> (first | (with_reducible rfl) | (simp; done))) | (with_reducible refine cell_alloc_of _ ?_) | (with_reducible refine cell_set_of _ (by (first | exact Nat.le_refl _ | omega | (simp; done) | (simp; omega))) ?_) | (with_reducible refine fro_drew_of ?_) | (with_reducible refine fro_drewN_of ?_) | (with_reducible refine fro_below_of (by with_reducible assumption) (by (first | exact Nat.le_refl _ | omega | (simp; done) | (simp; omega))) ?_) | (with_reducible refine fro_alloc_of _ (by (first | exact Nat.le_refl _ | omega | (simp; done) | (simp; omega))) ?_) | (with_reducible refine fro_set_of _ ?_))))⟩, (by repeat (first | (with_reducible exact Below.refl _ _) | (with_reducible assumption) | (with_reducible refine Below.drew ?_) | ((with_reducible refine below_alloc ?_ ?_ _); (· (first | exact Nat.le_refl _ | omega | (dsimp only; omega) | (simp only [World.size_alloc, World.size_drew, World.heap_drewN]; omega) | (simp; omega)))) | ((with_reducible refine below_set ?_ ?_ _); (· (first | exact Nat.le_refl _ | omega | (dsimp only; omega) | (simp only [World.size_alloc, World.size_drew, World.heap_drewN]; omega) | (simp; omega)))) | ((with_reducible refine below_via (by with_reducible assumption) ?_ ?_); (· (first | exact Nat.le_refl _ | omega | (dsimp only; omega) | (simp only [World.size_alloc, World.size_drew, World.heap_drewN]; omega) | (simp; omega)))))), by simp⟩ ?_
  rintro w1 ⟨⟨c0, c1, c2⟩, hv, hb1, hs1⟩
  have HV := Lib.hid hv
  have HB1 := Lib.hid hb1
  have HR := Lib.hid (H0.out.later hb1)
  have hsW : W.heap.size ≤ w1.heap.size := by omega
  obtain ⟨r0, r1, r2, f0, f1, f2⟩ := hv
  clear hb1
  go_region_held3 (fun w' => w'.cell? ⟨W.heap.size, 0, none⟩ = some (.slice bA r.n bc) ∧ w'.cell? ⟨W.heap.size, 1, none⟩ = some (.slice dA r.d dc) ∧ w'.cell? ⟨W.heap.size, 2, none⟩ = some (.slice vA r.m vc)) ((go_split_ands; (repeat' refine And.intro ?_ ?_) <;> (repeat (first | (with_reducible assumption) | (simp; done) | (with_reducible refine cell_drew_of ?_) | (with_reducible refine cell_drewN_of ?_) | (with_reducible refine cell_below_of (by with_reducible assumption) ?_) | ((with_reducible refine cell_new_of ?_ ?_) <;> (first | (with_reducible rfl) | (simp; done))) | ((with_reducible refine fro_new_of ?_) <;> (first | (with_reducible rfl) | (simp; done))) | (with_reducible refine cell_alloc_of _ ?_) | (with_reducible refine cell_set_of _ (by (first | exact Nat.le_refl _ | omega | (simp; done) | (simp; omega))) ?_) | (with_reducible refine fro_drew_of ?_) | (with_reducible refine fro_drewN_of ?_) | (with_reducible refine fro_below_of (by with_reducible assumption) (by (first | exact Nat.le_refl _ | omega | (simp; done) | (simp; omega))) ?_) | (with_reducible refine fro_alloc_of _ (by (first | exact Nat.le_refl _ | omega | (simp; done) | (simp; omega))) ?_) | (with_reducible refine fro_set_of _ ?_))))) (first | (go_at_call 36; refine (copyO_bn bA r.n bc r.B _ ((HR.out.b.below (show Below W.heap.size w1 _ from (show Below w1.heap.size w1 _ from (by repeat (first | (with_reducible exact Below.refl _ _) | (with_reducible refine Below.drew ?_) | (with_reducible refine below_drewN ?_ _) | ((with_reducible refine below_alloc ?_ ?_ _); · (first | exact Nat.le_refl _ | omega | (simp; done) | (simp; omega) | (simp at *; omega))) | ((with_reducible refine below_set ?_ ?_ _); · (first | exact Nat.le_refl _ | omega | (simp; done) | (simp; omega) | (simp at *; omega))) | ((with_reducible refine below_via (by with_reducible assumption) ?_ ?_); · (first | exact Nat.le_refl _ | omega | (simp; done) | (simp; omega) | (simp at *; omega)))))).mono hsW)).mono (by (first | exact Nat.le_refl _ | omega | (simp; done) | (simp; omega)))) hn).mono ?_; rintro e wa ⟨hba, bA', bc', rfl, hob, hbc', hobr⟩; obtain ⟨hca, hfa⟩ := bcell hba; have hza := hba.size; (try simp only [World.size_drew, World.heap_drewN, World.size_alloc] at hza); have r0 : wa.cell? ⟨W.heap.size + 1, 0, none⟩ = some (.slice none 0 0) := (by repeat (first | (with_reducible assumption) | (simp; done) | (with_reducible refine cell_drew_of ?_) | (with_reducible refine cell_drewN_of ?_) | (with_reducible refine cell_below_of (by with_reducible assumption) ?_) | ((with_reducible refine cell_new_of ?_ ?_) <;> (first | (with_reducible rfl) | (simp; done))) | ((with_reducible refine fro_new_of ?_) <;> (first | (with_reducible rfl) | (simp; done))) | (with_reducible refine cell_alloc_of _ ?_) | (with_reducible refine cell_set_of _ (by (first | exact Nat.le_refl _ | omega | (simp; done) | (simp; omega) | (simp at *; omega))) ?_) | (with_reducible refine fro_drew_of ?_) | (with_reducible refine fro_drewN_of ?_) | (with_reducible refine fro_below_of (by with_reducible assumption) (by (first | exact Nat.le_refl _ | omega | (simp; done) | (simp; omega) | (simp at *; omega))) ?_) | (with_reducible refine fro_alloc_of _ (by (first | exact Nat.le_refl _ | omega | (simp; done) | (simp; omega) | (simp at *; omega))) ?_) | (with_reducible refine fro_set_of _ ?_))); have r1 : wa.cell? ⟨W.heap.size + 1, 1, none⟩ = some (.slice none 0 0) := (by repeat (first | (with_reducible assumption) | (simp; done) | (with_reducible refine cell_drew_of ?_) | (with_reducible refine cell_drewN_of ?_) | (with_reducible refine cell_below_of (by with_reducible assumption) ?_) | ((with_reducible refine cell_new_of ?_ ?_) <;> (first | (with_reducible rfl) | (simp; done))) | ((with_reducible refine fro_new_of ?_) <;> (first | (with_reducible rfl) | (simp; done))) | (with_reducible refine cell_alloc_of _ ?_) | (with_reducible refine cell_set_of _ (by (first | exact Nat.le_refl _ | omega | (simp; done) | (simp; omega) | (simp at *; omega))) ?_) | (with_reducible refine fro_drew_of ?_) | (with_reducible refine fro_drewN_of ?_) | (with_reducible refine fro_below_of (by with_reducible assumption) (by (first | exact Nat.le_refl _ | omega | (simp; done) | (simp; omega) | (simp at *; omega))) ?_) | (with_reducible refine fro_alloc_of _ (by (first | exact Nat.le_refl _ | omega | (simp; done) | (simp; omega) | (simp at *; omega))) ?_) | (with_reducible refine fro_set_of _ ?_))); have r2 : wa.cell? ⟨W.heap.size + 1, 2, none⟩ = some (.slice none 0 0) := (by repeat (first | (with_reducible assumption) | (simp; done) | (with_reducible refine cell_drew_of ?_) | (with_reducible refine cell_drewN_of ?_) | (with_reducible refine cell_below_of (by with_reducible assumption) ?_) | ((with_reducible refine cell_new_of ?_ ?_) <;> (first | (with_reducible rfl) | (simp; done))) | ((with_reducible refine fro_new_of ?_) <;> (first | (with_reducible rfl) | (simp; done))) | (with_reducible refine cell_alloc_of _ ?_) | (with_reducible refine cell_set_of _ (by (first | exact Nat.le_refl _ | omega | (simp; done) | (simp; omega) | (simp at *; omega))) ?_) | (with_reducible refine fro_drew_of ?_) | (with_reducible refine fro_drewN_of ?_) | (with_reducible refine fro_below_of (by with_reducible assumption) (by (first | exact Nat.le_refl _ | omega | (simp; done) | (simp; omega) | (simp at *; omega))) ?_) | (with_reducible refine fro_alloc_of _ (by (first | exact Nat.le_refl _ | omega | (simp; done) | (simp; omega) | (simp at *; omega))) ?_) | (with_reducible refine fro_set_of _ ?_))); have f0 : wa.frozen? ⟨W.heap.size + 1, 0, none⟩ = false := (by repeat (first | (with_reducible assumption) | (simp; done) | (with_reducible refine cell_drew_of ?_) | (with_reducible refine cell_drewN_of ?_) | (with_reducible refine cell_below_of (by with_reducible assumption) ?_) | ((with_reducible refine cell_new_of ?_ ?_) <;> (first | (with_reducible rfl) | (simp; done))) | ((with_reducible refine fro_new_of ?_) <;> (first | (with_reducible rfl) | (simp; done))) | (with_reducible refine cell_alloc_of _ ?_) | (with_reducible refine cell_set_of _ (by (first | exact Nat.le_refl _ | omega | (simp; done) | (simp; omega) | (simp at *; omega))) ?_) | (with_reducible refine fro_drew_of ?_) | (with_reducible refine fro_drewN_of ?_) | (with_reducible refine fro_below_of (by with_reducible assumption) (by (first | exact Nat.le_refl _ | omega | (simp; done) | (simp; omega) | (simp at *; omega))) ?_) | (with_reducible refine fro_alloc_of _ (by (first | exact Nat.le_refl _ | omega | (simp; done) | (simp; omega) | (simp at *; omega))) ?_) | (with_reducible refine fro_set_of _ ?_))); have f1 : wa.frozen? ⟨W.heap.size + 1, 1, none⟩ = false := (by repeat (first | (with_reducible assumption) | (simp; done) | (with_reducible refine cell_drew_of ?_) | (with_reducible refine cell_drewN_of ?_) | (with_reducible refine cell_below_of (by with_reducible assumption) ?_) | ((with_reducible refine cell_new_of ?_ ?_) <;> (first | (with_reducible rfl) | (simp; done))) | ((with_reducible refine fro_new_of ?_) <;> (first | (with_reducible rfl) | (simp; done))) | (with_reducible refine cell_alloc_of _ ?_) | (with_reducible refine cell_set_of _ (by (first | exact Nat.le_refl _ | omega | (simp; done) | (simp; omega) | (simp at *; omega))) ?_) | (with_reducible refine fro_drew_of ?_) | (with_reducible refine fro_drewN_of ?_) | (with_reducible refine fro_below_of (by with_reducible assumption) (by (first | exact Nat.le_refl _ | omega | (simp; done) | (simp; omega) | (simp at *; omega))) ?_) | (with_reducible refine fro_alloc_of _ (by (first | exact Nat.le_refl _ | omega | (simp; done) | (simp; omega) | (simp at *; omega))) ?_) | (with_reducible refine fro_set_of _ ?_))); have f2 : wa.frozen? ⟨W.heap.size + 1, 2, none⟩ = false := (by repeat (first | (with_reducible assumption) | (simp; done) | (with_reducible refine cell_drew_of ?_) | (with_reducible refine cell_drewN_of ?_) | (with_reducible refine cell_below_of (by with_reducible assumption) ?_) | ((with_reducible refine cell_new_of ?_ ?_) <;> (first | (with_reducible rfl) | (simp; done))) | ((with_reducible refine fro_new_of ?_) <;> (first | (with_reducible rfl) | (simp; done))) | (with_reducible refine cell_alloc_of _ ?_) | (with_reducible refine cell_set_of _ (by (first | exact Nat.le_refl _ | omega | (simp; done) | (simp; omega) | (simp at *; omega))) ?_) | (with_reducible refine fro_drew_of ?_) | (with_reducible refine fro_drewN_of ?_) | (with_reducible refine fro_below_of (by with_reducible assumption) (by (first | exact Nat.le_refl _ | omega | (simp; done) | (simp; omega) | (simp at *; omega))) ?_) | (with_reducible refine fro_alloc_of _ (by (first | exact Nat.le_refl _ | omega | (simp; done) | (simp; omega) | (simp at *; omega))) ?_) | (with_reducible refine fro_set_of _ ?_))); clear hca hfa) | (go_at_call 37; refine (copyO_kd dA r.d dc r.D _ ((HR.out.d.below (show Below W.heap.size w1 _ from (show Below w1.heap.size w1 _ from (by repeat (first | (with_reducible exact Below.refl _ _) | (with_reducible refine Below.drew ?_) | (with_reducible refine below_drewN ?_ _) | ((with_reducible refine below_alloc ?_ ?_ _); · (first | exact Nat.le_refl _ | omega | (simp; done) | (simp; omega) | (simp at *; omega))) | ((with_reducible refine below_set ?_ ?_ _); · (first | exact Nat.le_refl _ | omega | (simp; done) | (simp; omega) | (simp at *; omega))) | ((with_reducible refine below_via (by with_reducible assumption) ?_ ?_); · (first | exact Nat.le_refl _ | omega | (simp; done) | (simp; omega) | (simp at *; omega)))))).mono hsW)).mono (by (first | exact Nat.le_refl _ | omega | (simp; done) | (simp; omega)))) hd).mono ?_; rintro e wd ⟨hbd, dA', dc', rfl, hod, hdc', hodr⟩; obtain ⟨hcd, hfd⟩ := bcell hbd; have hzd := hbd.size; (try simp only [World.size_drew, World.heap_drewN, World.size_alloc] at hzd); have r0 : wd.cell? ⟨W.heap.size + 1, 0, none⟩ = some (.slice none 0 0) := (by repeat (first | (with_reducible assumption) | (simp; done) | (with_reducible refine cell_drew_of ?_) | (with_reducible refine cell_drewN_of ?_) | (with_reducible refine cell_below_of (by with_reducible assumption) ?_) | ((with_reducible refine cell_new_of ?_ ?_) <;> (first | (with_reducible rfl) | (simp; done))) | ((with_reducible refine fro_new_of ?_) <;> (first | (with_reducible rfl) | (simp; done))) | (with_reducible refine cell_alloc_of _ ?_) | (with_reducible refine cell_set_of _ (by (first | exact Nat.le_refl _ | omega | (simp; done) | (simp; omega) | (simp at *; omega))) ?_) | (with_reducible refine fro_drew_of ?_) | (with_reducible refine fro_drewN_of ?_) | (with_reducible refine fro_below_of (by with_reducible assumption) (by (first | exact Nat.le_refl _ | omega | (simp; done) | (simp; omega) | (simp at *; omega))) ?_) | (with_reducible refine fro_alloc_of _ (by (first | exact Nat.le_refl _ | omega | (simp; done) | (simp; omega) | (simp at *; omega))) ?_) | (with_reducible refine fro_set_of _ ?_))); have r1 : wd.cell? ⟨W.heap.size + 1, 1, none⟩ = some (.slice none 0 0) := (by repeat (first | (with_reducible assumption) | (simp; done) | (with_reducible refine cell_drew_of ?_) | (with_reducible refine cell_drewN_of ?_) | (with_reducible refine cell_below_of (by with_reducible assumption) ?_) | ((with_reducible refine cell_new_of ?_ ?_) <;> (first | (with_reducible rfl) | (simp; done))) | ((with_reducible refine fro_new_of ?_) <;> (first | (with_reducible rfl) | (simp; done))) | (with_reducible refine cell_alloc_of _ ?_) | (with_reducible refine cell_set_of _ (by (first | exact Nat.le_refl _ | omega | (simp; done) | (simp; omega) | (simp at *; omega))) ?_) | (with_reducible refine fro_drew_of ?_) | (with_reducible refine fro_drewN_of ?_) | (with_reducible refine fro_below_of (by with_reducible assumption) (by (first | exact Nat.le_refl _ | omega | (simp; done) | (simp; omega) | (simp at *; omega))) ?_) | (with_reducible refine fro_alloc_of _ (by (first | exact Nat.le_refl _ | omega | (simp; done) | (simp; omega) | (simp at *; omega))) ?_) | (with_reducible refine fro_set_of _ ?_))); have r2 : wd.cell? ⟨W.heap.size + 1, 2, none⟩ = some (.slice none 0 0) := (by repeat (first | (with_reducible assumption) | (simp; done) | (with_reducible refine cell_drew_of ?_) | (with_reducible refine cell_drewN_of ?_) | (with_reducible refine cell_below_of (by with_reducible assumption) ?_) | ((with_reducible refine cell_new_of ?_ ?_) <;> (first | (with_reducible rfl) | (simp; done))) | ((with_reducible refine fro_new_of ?_) <;> (first | (with_reducible rfl) | (simp; done))) | (with_reducible refine cell_alloc_of _ ?_) | (with_reducible refine cell_set_of _ (by (first | exact Nat.le_refl _ | omega | (simp; done) | (simp; omega) | (simp at *; omega))) ?_) | (with_reducible refine fro_drew_of ?_) | (with_reducible refine fro_drewN_of ?_) | (with_reducible refine fro_below_of (by with_reducible assumption) (by (first | exact Nat.le_refl _ | omega | (simp; done) | (simp; omega) | (simp at *; omega))) ?_) | (with_reducible refine fro_alloc_of _ (by (first | exact Nat.le_refl _ | omega | (simp; done) | (simp; omega) | (simp at *; omega))) ?_) | (with_reducible refine fro_set_of _ ?_))); have f0 : wd.frozen? ⟨W.heap.size + 1, 0, none⟩ = false := (by repeat (first | (with_reducible assumption) | (simp; done) | (with_reducible refine cell_drew_of ?_) | (with_reducible refine cell_drewN_of ?_) | (with_reducible refine cell_below_of (by with_reducible assumption) ?_) | ((with_reducible refine cell_new_of ?_ ?_) <;> (first | (with_reducible rfl) | (simp; done))) | ((with_reducible refine fro_new_of ?_) <;> (first | (with_reducible rfl) | (simp; done))) | (with_reducible refine cell_alloc_of _ ?_) | (with_reducible refine cell_set_of _ (by (first | exact Nat.le_refl _ | omega | (simp; done) | (simp; omega) | (simp at *; omega))) ?_) | (with_reducible refine fro_drew_of ?_) | (with_reducible refine fro_drewN_of ?_) | (with_reducible refine fro_below_of (by with_reducible assumption) (by (first | exact Nat.le_refl _ | omega | (simp; done) | (simp; omega) | (simp at *; omega))) ?_) | (with_reducible refine fro_alloc_of _ (by (first | exact Nat.le_refl _ | omega | (simp; done) | (simp; omega) | (simp at *; omega))) ?_) | (with_reducible refine fro_set_of _ ?_))); have f1 : wd.frozen? ⟨W.heap.size + 1, 1, none⟩ = false := (by repeat (first | (with_reducible assumption) | (simp; done) | (with_reducible refine cell_drew_of ?_) | (with_reducible refine cell_drewN_of ?_) | (with_reducible refine cell_below_of (by with_reducible assumption) ?_) | ((with_reducible refine cell_new_of ?_ ?_) <;> (first | (with_reducible rfl) | (simp; done))) | ((with_reducible refine fro_new_of ?_) <;> (first | (with_reducible rfl) | (simp; done))) | (with_reducible refine cell_alloc_of _ ?_) | (with_reducible refine cell_set_of _ (by (first | exact Nat.le_refl _ | omega | (simp; done) | (simp; omega) | (simp at *; omega))) ?_) | (with_reducible refine fro_drew_of ?_) | (with_reducible refine fro_drewN_of ?_) | (with_reducible refine fro_below_of (by with_reducible assumption) (by (first | exact Nat.le_refl _ | omega | (simp; done) | (simp; omega) | (simp at *; omega))) ?_) | (with_reducible refine fro_alloc_of _ (by (first | exact Nat.le_refl _ | omega | (simp; done) | (simp; omega) | (simp at *; omega))) ?_) | (with_reducible refine fro_set_of _ ?_))); have f2 : wd.frozen? ⟨W.heap.size + 1, 2, none⟩ = false := (by repeat (first | (with_reducible assumption) | (simp; done) | (with_reducible refine cell_drew_of ?_) | (with_reducible refine cell_drewN_of ?_) | (with_reducible refine cell_below_of (by with_reducible assumption) ?_) | ((with_reducible refine cell_new_of ?_ ?_) <;> (first | (with_reducible rfl) | (simp; done))) | ((with_reducible refine fro_new_of ?_) <;> (first | (with_reducible rfl) | (simp; done))) | (with_reducible refine cell_alloc_of _ ?_) | (with_reducible refine cell_set_of _ (by (first | exact Nat.le_refl _ | omega | (simp; done) | (simp; omega) | (simp at *; omega))) ?_) | (with_reducible refine fro_drew_of ?_) | (with_reducible refine fro_drewN_of ?_) | (with_reducible refine fro_below_of (by with_reducible assumption) (by (first | exact Nat.le_refl _ | omega | (simp; done) | (simp; omega) | (simp at *; omega))) ?_) | (with_reducible refine fro_alloc_of _ (by (first | exact Nat.le_refl _ | omega | (simp; done) | (simp; omega) | (simp at *; omega))) ?_) | (with_reducible refine fro_set_of _ ?_))); clear hcd hfd) | (go_at_call 38; refine (copyO_wg vA r.m vc r.V _ ((HR.out.v.below (show Below W.heap.size w1 _ from (show Below w1.heap.size w1 _ from (by repeat (first | (with_reducible exact Below.refl _ _) | (with_reducible refine Below.drew ?_) | (with_reducible refine below_drewN ?_ _) | ((with_reducible refine below_alloc ?_ ?_ _); · (first | exact Nat.le_refl _ | omega | (simp; done) | (simp; omega) | (simp at *; omega))) | ((with_reducible refine below_set ?_ ?_ _); · (first | exact Nat.le_refl _ | omega | (simp; done) | (simp; omega) | (simp at *; omega))) | ((with_reducible refine below_via (by with_reducible assumption) ?_ ?_); · (first | exact Nat.le_refl _ | omega | (simp; done) | (simp; omega) | (simp at *; omega)))))).mono hsW)).mono (by (first | exact Nat.le_refl _ | omega | (simp; done) | (simp; omega)))) hm).mono ?_; rintro e wg ⟨hbg, vA', vc', rfl, hov, hvc', hovr⟩; obtain ⟨hcg, hfg⟩ := bcell hbg; have hzg := hbg.size; (try simp only [World.size_drew, World.heap_drewN, World.size_alloc] at hzg); have r0 : wg.cell? ⟨W.heap.size + 1, 0, none⟩ = some (.slice none 0 0) := (by repeat (first | (with_reducible assumption) | (simp; done) | (with_reducible refine cell_drew_of ?_) | (with_reducible refine cell_drewN_of ?_) | (with_reducible refine cell_below_of (by with_reducible assumption) ?_) | ((with_reducible refine cell_new_of ?_ ?_) <;> (first | (with_reducible rfl) | (simp; done))) | ((with_reducible refine fro_new_of ?_) <;> (first | (with_reducible rfl) | (simp; done))) | (with_reducible refine cell_alloc_of _ ?_) | (with_reducible refine cell_set_of _ (by (first | exact Nat.le_refl _ | omega | (simp; done) | (simp; omega) | (simp at *; omega))) ?_) | (with_reducible refine fro_drew_of ?_) | (with_reducible refine fro_drewN_of ?_) | (with_reducible refine fro_below_of (by with_reducible assumption) (by (first | exact Nat.le_refl _ | omega | (simp; done) | (simp; omega) | (simp at *; omega))) ?_) | (with_reducible refine fro_alloc_of _ (by (first | exact Nat.le_refl _ | omega | (simp; done) | (simp; omega) | (simp at *; omega))) ?_) | (with_reducible refine fro_set_of _ ?_))); have r1 : wg.cell? ⟨W.heap.size + 1, 1, none⟩ = some (.slice none 0 0) := (by repeat (first | (with_reducible assumption) | (simp; done) | (with_reducible refine cell_drew_of ?_) | (with_reducible refine cell_drewN_of ?_) | (with_reducible refine cell_below_of (by with_reducible assumption) ?_) | ((with_reducible refine cell_new_of ?_ ?_) <;> (first | (with_reducible rfl) | (simp; done))) | ((with_reducible refine fro_new_of ?_) <;> (first | (with_reducible rfl) | (simp; done))) | (with_reducible refine cell_alloc_of _ ?_) | (with_reducible refine cell_set_of _ (by (first | exact Nat.le_refl _ | omega | (simp; done) | (simp; omega) | (simp at *; omega))) ?_) | (with_reducible refine fro_drew_of ?_) | (with_reducible refine fro_drewN_of ?_) | (with_reducible refine fro_below_of (by with_reducible assumption) (by (first | exact Nat.le_refl _ | omega | (simp; done) | (simp; omega) | (simp at *; omega))) ?_) | (with_reducible refine fro_alloc_of _ (by (first | exact Nat.le_refl _ | omega | (simp; done) | (simp; omega) | (simp at *; omega))) ?_) | (with_reducible refine fro_set_of _ ?_))); have r2 : wg.cell? ⟨W.heap.size + 1, 2, none⟩ = some (.slice none 0 0) := (by repeat (first | (with_reducible assumption) | (simp; done) | (with_reducible refine cell_drew_of ?_) | (with_reducible refine cell_drewN_of ?_) | (with_reducible refine cell_below_of (by with_reducible assumption) ?_) | ((with_reducible refine cell_new_of ?_ ?_) <;> (first | (with_reducible rfl) | (simp; done))) | ((with_reducible refine fro_new_of ?_) <;> (first | (with_reducible rfl) | (simp; done))) | (with_reducible refine cell_alloc_of _ ?_) | (with_reducible refine cell_set_of _ (by (first | exact Nat.le_refl _ | omega | (simp; done) | (simp; omega) | (simp at *; omega))) ?_) | (with_reducible refine fro_drew_of ?_) | (with_reducible refine fro_drewN_of ?_) | (with_reducible refine fro_below_of (by with_reducible assumption) (by (first | exact Nat.le_refl _ | omega | (simp; done) | (simp; omega) | (simp at *; omega))) ?_) | (with_reducible refine fro_alloc_of _ (by (first | exact Nat.le_refl _ | omega | (simp; done) | (simp; omega) | (simp at *; omega))) ?_) | (with_reducible refine fro_set_of _ ?_))); have f0 : wg.frozen? ⟨W.heap.size + 1, 0, none⟩ = false := (by repeat (first | (with_reducible assumption) | (simp; done) | (with_reducible refine cell_drew_of ?_) | (with_reducible refine cell_drewN_of ?_) | (with_reducible refine cell_below_of (by with_reducible assumption) ?_) | ((with_reducible refine cell_new_of ?_ ?_) <;> (first | (with_reducible rfl) | (simp; done))) | ((with_reducible refine fro_new_of ?_) <;> (first | (with_reducible rfl) | (simp; done))) | (with_reducible refine cell_alloc_of _ ?_) | (with_reducible refine cell_set_of _ (by (first | exact Nat.le_refl _ | omega | (simp; done) | (simp; omega) | (simp at *; omega))) ?_) | (with_reducible refine fro_drew_of ?_) | (with_reducible refine fro_drewN_of ?_) | (with_reducible refine fro_below_of (by with_reducible assumption) (by (first | exact Nat.le_refl _ | omega | (simp; done) | (simp; omega) | (simp at *; omega))) ?_) | (with_reducible refine fro_alloc_of _ (by (first | exact Nat.le_refl _ | omega | (simp; done) | (simp; omega) | (simp at *; omega))) ?_) | (with_reducible refine fro_set_of _ ?_))); have f1 : wg.frozen? ⟨W.heap.size + 1, 1, none⟩ = false := (by repeat (first | (with_reducible assumption) | (simp; done) | (with_reducible refine cell_drew_of ?_) | (with_reducible refine cell_drewN_of ?_) | (with_reducible refine cell_below_of (by with_reducible assumption) ?_) | ((with_reducible refine cell_new_of ?_ ?_) <;> (first | (with_reducible rfl) | (simp; done))) | ((with_reducible refine fro_new_of ?_) <;> (first | (with_reducible rfl) | (simp; done))) | (with_reducible refine cell_alloc_of _ ?_) | (with_reducible refine cell_set_of _ (by (first | exact Nat.le_refl _ | omega | (simp; done) | (simp; omega) | (simp at *; omega))) ?_) | (with_reducible refine fro_drew_of ?_) | (with_reducible refine fro_drewN_of ?_) | (with_reducible refine fro_below_of (by with_reducible assumption) (by (first | exact Nat.le_refl _ | omega | (simp; done) | (simp; omega) | (simp at *; omega))) ?_) | (with_reducible refine fro_alloc_of _ (by (first | exact Nat.le_refl _ | omega | (simp; done) | (simp; omega) | (simp at *; omega))) ?_) | (with_reducible refine fro_set_of _ ?_))); have f2 : wg.frozen? ⟨W.heap.size + 1, 2, none⟩ = false := (by repeat (first | (with_reducible assumption) | (simp; done) | (with_reducible refine cell_drew_of ?_) | (with_reducible refine cell_drewN_of ?_) | (with_reducible refine cell_below_of (by with_reducible assumption) ?_) | ((with_reducible refine cell_new_of ?_ ?_) <;> (first | (with_reducible rfl) | (simp; done))) | ((with_reducible refine fro_new_of ?_) <;> (first | (with_reducible rfl) | (simp; done))) | (with_reducible refine cell_alloc_of _ ?_) | (with_reducible refine cell_set_of _ (by (first | exact Nat.le_refl _ | omega | (simp; done) | (simp; omega) | (simp at *; omega))) ?_) | (with_reducible refine fro_drew_of ?_) | (with_reducible refine fro_drewN_of ?_) | (with_reducible refine fro_below_of (by with_reducible assumption) (by (first | exact Nat.le_refl _ | omega | (simp; done) | (simp; omega) | (simp at *; omega))) ?_) | (with_reducible refine fro_alloc_of _ (by (first | exact Nat.le_refl _ | omega | (simp; done) | (simp; omega) | (simp at *; omega))) ?_) | (with_reducible refine fro_set_of _ ?_))); clear hcg hfg))
  have hz1 : w1.heap.size ≤ w1.drew.heap.size := by simp
  have HB := Lib.hid (hb1f HB1.out hbg hbd hba hsW)
  have HLB := Lib.hid (hob.below_of h1n)
  have HOR := Lib.hid (owns_later hodr hbg)
  have HLD := Lib.hid (hod.below_of h1d)
  have hzz : wa.heap.size ≤ wd.heap.size ∧ wd.heap.size ≤ wg.heap.size := ⟨hzd, hzg⟩
  have HOB := Lib.hid (owns_later (owns_later hobr hbd) hbg)
  have HOBn := Lib.hid ((hob.later hbd).later hbg)
  have HOD := Lib.hid (hod.later hbg)
  have HOV := Lib.hid hovr
  have hxs : W.heap.size + 2 ≤ w1.drew.heap.size ∧ w1.drew.heap.size ≤ wa.heap.size := by
    rw [World.size_drew]
    exact ⟨hs1, hza⟩
  clear hba hob hobr hbd hod hodr hbg hov hovr c0 c1 c2
  go_wp2_with fail
  refine name_post ?_
  intro w' hw
  have hk : ∀ i, i ≠ W.heap.size + 1 → w'.heap[i]? = wg.heap[i]? := fun i hi => by
    rw [hw]
    exact (set_heap _ (by exact hi)).trans ((set_heap _ (by exact hi)).trans (set_heap _ (by exact hi)))
  have hbf : Below W.heap.size W w' := by
    rw [hw]
    exact ((HB.out.setCell (by dsimp only; omega) _).setCell (by dsimp only; omega) _).setCell (by dsimp only; omega) _
  have hres : w'.cell? ⟨W.heap.size + 1, 0, none⟩ = some (.slice bA' r.n bc') ∧ w'.cell? ⟨W.heap.size + 1, 1, none⟩ = some (.slice dA' r.d dc') ∧ w'.cell? ⟨W.heap.size + 1, 2, none⟩ = some (.slice vA' r.m vc') := by
    rw [hw]
    exact ⟨by simp [go_sem, r0], by simp [go_sem, r0, r1], by simp [go_sem, r0, r1, r2]⟩
  clear hw
  obtain ⟨s0, s1, s2⟩ := hres
  exact bodyPost_ret (v := rwV bA' r.n bc' dA' r.d dc' vA' r.m vc') (by simp [results, Try.results10, go_sem, s0, s1, s2]) rfl ⟨bA', dA', vA', bc', dc', vc', wd.heap.size, rfl, by omega, fun a ha => Nat.lt_of_lt_of_le (HLB.out a ha) (by omega), fun a ha => HLD.out a ha, (HOBn.out.keep (fun b h1 h2 => hk b (by omega))).low (by omega), (HOD.out.keep (fun b h1 h2 => hk b (by omega))).low (by omega), owns_sm HOV.out (fun g h1 h2 => hk g (by omega)), ⟨hbc', hdc', hvc'⟩, hbf, wa.heap.size, by omega, by omega, fun a ha => HLB.out a ha, owns_sm HOR.out (fun g h1 h2 => hk g (by omega))⟩

end Go.Proofs.Ytnnikeolgknfoaa

set_option linter.unusedSimpArgs false
set_option linter.unusedVariables false
namespace Go.Proofs.Ytnnikeolgknfoaa
open Go.RowKit

theorem wpAny_inv {P : Program} {md : Region.Mode} {ops : Array Oper} {Q : Exit → Act → World → Prop} (Inv : Array Bool → Act → World → Prop)
    (hend : ∀ l a w, Inv l a w → Region.ready md ops l = [] → Q .normal a w)
    (hstep : ∀ l a w, Inv l a w → ∀ i ∈ Region.ready md ops l, wpOp P ops Q i (fun a' w' => Inv (l.setIfInBounds i true) a' w') a w) :
    ∀ (fuel : Nat) (l : Array Bool) (a : Act) (w : World), l.countP (fun b => !b) ≤ fuel → Inv l a w → wpAny P md ops Q fuel l a w
  | 0, l, a, w, hc, hI => by
    have h0 : Region.ready md ops l = [] := by
      refine List.eq_nil_iff_forall_not_mem.2 (fun j hj => ?_)
      obtain ⟨h0, o, ho, _⟩ := mem_ready.1 hj
      have hj : j < l.size := by
        rcases Nat.lt_or_ge j l.size with h | h
        · exact h
        · simp [Array.getElem?_eq_none h] at h0
      have h1 : l[j] = false := by simpa [hj] using h0
      have h2 : 0 < l.countP (fun b => !b) := Array.countP_pos_iff.2 ⟨l[j], Array.getElem_mem hj, by rw [h1]; rfl⟩
      omega
    exact ⟨h0, hend l a w hI h0⟩
  | fuel + 1, l, a, w, hc, hI => ⟨hend l a w hI, fun i hi => by
    refine wpOp_mono (fun a' w' h => wpAny_inv Inv hend hstep fuel _ a' w' ?_ h) (hstep l a w hI i hi)
    obtain ⟨h0, o, ho, _⟩ := mem_ready.1 hi
    have hj : i < l.size := by
      rcases Nat.lt_or_ge i l.size with h | h
      · exact h
      · simp [Array.getElem?_eq_none h] at h0
    have h1 : l[i] = false := by simpa [hj] using h0
    have h2 : 0 < l.countP (fun b => !b) := Array.countP_pos_iff.2 ⟨l[i], Array.getElem_mem hj, by rw [h1]; rfl⟩
    have h3 : (l.setIfInBounds i true).countP (fun b => !b) = l.countP (fun b => !b) - 1 := by
      rw [Array.setIfInBounds_def, dif_pos hj, Array.countP_set, h1]
      simp
    rw [h3]
    omega⟩
theorem wp_region_inv {P : Program} {ops : Array Oper} {Q : Exit → Act → World → Prop} {id : Nat} {a : Act} {w : World} (Inv : Array Bool → Act → World → Prop) (hm : P.follows .mixedOrders = true)
    (h0 : Inv (Array.replicate ops.size false) a w.drew)
    (hstep : ∀ l a w, Inv l a w → ∀ i ∈ Region.ready .any ops l, wpOp P ops Q i (fun a' w' => Inv (l.setIfInBounds i true) a' w') a w)
    (hend : ∀ l a w, Inv l a w → Region.ready .any ops l = [] → Q .normal a w) : (Code.region id ops true).wp P Q a w :=
  wp_region_any hm (wpAny_inv Inv hend hstep _ _ _ _ (by simp [Array.countP_replicate]) h0)
end Go.Proofs.Ytnnikeolgknfoaa

set_option linter.unusedSimpArgs false
set_option linter.unusedVariables false
namespace Go.Proofs.Ytnnikeolgknfoaa
open Go.RowKit Go.Shelf

/-- a copy of a row, and the blocks in which it lies -/
structure Cp where
  bA : Option Addr
  dA : Option Addr
  vA : Option Addr
  bc : Nat
  dc : Nat
  vc : Nat
  s : Nat
  m : Nat
  e : Nat
abbrev Cp.val (c : Cp) (r : Rw) : Value := rwV c.bA r.n c.bc c.dA r.d c.dc c.vA r.m c.vc
structure CpAt (w : World) (r : Rw) (c : Cp) : Prop where
  b : OwnBn w c.s c.bA r.n r.B
  d : OwnInt w c.s c.dA r.d r.D
  v : w.ownsRow c.m 35 4 (.slice c.vA r.m c.vc) r.m (rowC wgC r.V r.m)
  bl : ∀ a, c.bA = some a → c.s ≤ a.block ∧ a.block < c.m ∧ a.block < c.e
  dl : ∀ a, c.dA = some a → c.s ≤ a.block ∧ a.block < c.m ∧ a.block < c.e
  vl : ∀ g, (Value.slice c.vA r.m c.vc).ownBlock = some g → c.m ≤ g ∧ g < c.e
  cap : r.n ≤ c.bc ∧ r.d ≤ c.dc ∧ r.m ≤ c.vc
  sm : c.s ≤ c.m
  me : c.m ≤ c.e
  e : c.e ≤ w.heap.size
theorem OwnBn.keepA {w w' : World} {lo n : Nat} {A : Option Addr} {P : Nat → Bn} (h : OwnBn w lo A n P) (hk : ∀ a, A = some a → w'.heap[a.block]? = w.heap[a.block]?) : OwnBn w' lo A n P := fun k hk' => by
  obtain ⟨b, hA, hl, c0, c1, c2, c3, c4, c5, c6, hf⟩ := h k hk'
  have hs := hk _ hA
  dsimp only at hs
  exact ⟨b, hA, hl, cell_same hs c0, cell_same hs c1, cell_same hs c2, cell_same hs c3, cell_same hs c4, cell_same hs c5, cell_same hs c6, fun i => fro_same hs (hf i)⟩
theorem OwnInt.keepA {w w' : World} {lo n : Nat} {A : Option Addr} {P : Nat → Int} (h : OwnInt w lo A n P) (hk : ∀ a, A = some a → w'.heap[a.block]? = w.heap[a.block]?) : OwnInt w' lo A n P := fun k hk' => by
  obtain ⟨b, hA, hl, c0, hf⟩ := h k hk'
  have hs := hk _ hA
  dsimp only at hs
  exact ⟨b, hA, hl, cell_same hs c0, fun i => fro_same hs (hf i)⟩
theorem CpAt.keep {w w' : World} {r : Rw} {c : Cp} (h : CpAt w r c) (hk : ∀ i, c.s ≤ i → i < c.e → w'.heap[i]? = w.heap[i]?) (hs : w.heap.size ≤ w'.heap.size) : CpAt w' r c :=
  ⟨h.b.keepA (fun a ha => by have := h.bl a ha; exact hk _ this.1 this.2.2), h.d.keepA (fun a ha => by have := h.dl a ha; exact hk _ this.1 this.2.2), owns_sm h.v (fun g h1 h2 => by have := h.vl g h2; have := h.sm; exact hk g (by omega) (by omega)), h.bl, h.dl, h.vl, h.cap, h.sm, h.me, Nat.le_trans h.e hs⟩
theorem CpAt.of {w w' : World} {r : Rw} (hn : 1 ≤ r.n) (hd : 1 ≤ r.d) {e : Ending} (h : OwnPost2 r w e w') : ∃ c : Cp, e = .returned (c.val r) ∧ CpAt w' r c ∧ c.s = w.heap.size ∧ c.e = w'.heap.size ∧ Below w.heap.size w w' := by
  obtain ⟨bA, dA, vA, bc, dc, vc, m, rfl, hm, hb, hd', ob, od, ov, hc, hbel, -⟩ := h
  have hsz := hbel.size
  refine ⟨⟨bA, dA, vA, bc, dc, vc, w.heap.size, min m w'.heap.size, w'.heap.size⟩, rfl, ⟨ob, od, owns_low (Nat.min_le_left _ _) ov, fun a ha => ?_, fun a ha => ?_, fun g hg => ?_, hc, by show w.heap.size ≤ min m w'.heap.size; omega, Nat.min_le_right _ _, Nat.le_refl _⟩, rfl, rfl, hbel⟩
  · obtain ⟨b, hA, hl, c0, _⟩ := ob 0 (by omega)
    have h1 := ob.below_of hn a ha
    have h2 := hb a ha
    dsimp only at ha ⊢
    rw [ha] at hA
    injection hA with hA
    rw [hA] at h1 h2 ⊢
    exact ⟨hl, Nat.lt_min.2 ⟨h2, h1⟩, h1⟩
  · obtain ⟨b, hA, hl, c0, _⟩ := od 0 (by omega)
    have h1 := od.below_of hd a ha
    have h2 := hd' a ha
    dsimp only at ha ⊢
    rw [ha] at hA
    injection hA with hA
    rw [hA] at h1 h2 ⊢
    exact ⟨hl, Nat.lt_min.2 ⟨h2, h1⟩, h1⟩
  · have := ov.lt g hg
    exact ⟨Nat.le_trans (Nat.min_le_left _ _) this.1, this.2⟩

def upd {α : Type} (f : Nat → α) (j : Nat) (v : α) : Nat → α := fun k => if k = j then v else f k
theorem upd_same {α : Type} (f : Nat → α) (j : Nat) (v : α) : upd f j v j = v := if_pos rfl
theorem upd_off {α : Type} (f : Nat → α) {j k : Nat} (v : α) (h : k ≠ j) : upd f j v k = f k := if_neg h
abbrev nilS : Value := .slice none 0 0
/-- what a box holds -/
def BoxIs (w : World) (z : Nat) (r : Rw) (c : Cp) (st : Bool) : Prop := if st then V3 w z (.slice c.bA r.n c.bc) (.slice c.dA r.d c.dc) (.slice c.vA r.m c.vc) else V3 w z nilS nilS nilS
theorem BoxIs.same {w w' : World} {z : Nat} {r : Rw} {c : Cp} {st : Bool} (h : BoxIs w z r c st) (hs : w'.heap[z]? = w.heap[z]?) : BoxIs w' z r c st := by
  unfold BoxIs at *
  cases st
  · exact V3.same h hs
  · exact V3.same h hs
theorem BoxIs.lt {w : World} {z : Nat} {r : Rw} {c : Cp} {st : Bool} (h : BoxIs w z r c st) : z < w.heap.size := by
  unfold BoxIs at h
  cases st
  · exact V3.lt h
  · exact V3.lt h
/-- the region at work: loads, calls, boxes and stores that have come up -/
structure StI (w0 w : World) (r : Rw) (rv : Value) (lb cb ab sb : Nat → Bool) (vl vc va : Nat → Value) (C : Nat → Cp) (z : Nat → Nat) : Prop where
  bel : Below w0.heap.size w0 w
  l : ∀ j, lb j = true → vl j = rv
  c : ∀ j, cb j = true → vc j = (C j).val r ∧ CpAt w r (C j) ∧ w0.heap.size ≤ (C j).s
  cc : ∀ i j, i < j → cb i = true → cb j = true → (C i).e ≤ (C j).s
  a : ∀ j, ab j = true → va j = .pointer (some ⟨z j, 0, none⟩) ∧ w0.heap.size ≤ z j ∧ BoxIs w (z j) r (C j) (sb j)
  aa : ∀ i j, i ≠ j → ab i = true → ab j = true → z i ≠ z j
  ac : ∀ i j, cb i = true → ab j = true → z j < (C i).s ∨ (C i).e ≤ z j
  sc : ∀ j, sb j = true → cb j = true ∧ ab j = true
  ord : ∀ i j, i < j → cb j = true → cb i = true
theorem StI.zero (w : World) (r : Rw) (rv : Value) (vl vc va : Nat → Value) (C : Nat → Cp) (z : Nat → Nat) : StI w w.drew r rv (fun _ => false) (fun _ => false) (fun _ => false) (fun _ => false) vl vc va C z :=
  ⟨(Below.refl _ w).drew, fun j h => by simp at h, fun j h => by simp at h, fun i j _ h => by simp at h, fun j h => by simp at h, fun i j _ h => by simp at h, fun i j h => by simp at h, fun j h => by simp at h, fun i j _ h => by simp at h⟩
section
variable {w0 w w' : World} {r : Rw} {rv : Value} {lb cb ab sb : Nat → Bool} {vl vc va : Nat → Value} {C : Nat → Cp} {z : Nat → Nat}
theorem StI.load (h : StI w0 w r rv lb cb ab sb vl vc va C z) (j : Nat) : StI w0 w r rv (upd lb j true) cb ab sb (upd vl j rv) vc va C z :=
  ⟨h.bel, fun k hk => by
    by_cases e : k = j
    · subst e; exact upd_same _ _ _
    · rw [upd_off _ _ e] at hk ⊢; exact h.l k hk, h.c, h.cc, h.a, h.aa, h.ac, h.sc, h.ord⟩
theorem StI.call (h : StI w0 w r rv lb cb ab sb vl vc va C z) (j : Nat) (hj : cb j = false) (hpre : ∀ i, i < j → cb i = true) {c : Cp} (hc : CpAt w' r c) (hs : c.s = w.heap.size) (he : c.e = w'.heap.size) (hb : Below w.heap.size w w') :
    StI w0 w' r rv lb (upd cb j true) ab sb vl (upd vc j (c.val r)) va (upd C j c) z := by
  have h0 := h.bel.size
  have hz := hb.size
  have hlo : ∀ i, j < i → cb i = false := fun i hij => by
    cases hsb : cb i
    · rfl
    · have := h.ord j i hij hsb
      rw [hj] at this
      exact absurd this (by simp)
  have hsj : sb j = false := by
    cases hsb : sb j
    · rfl
    · have := (h.sc j hsb).1
      rw [hj] at this
      exact absurd this (by simp)
  have hold : ∀ i, cb i = true → CpAt w' r (C i) ∧ (C i).e ≤ w.heap.size := fun i hi => by
    have hci := (h.c i hi).2.1
    exact ⟨hci.keep (fun q h1 h2 => hb.block q (by have := hci.e; omega)) hz, hci.e⟩
  refine ⟨h.bel.trans (hb.mono h0), h.l, fun k hk => ?_, fun i k hik hi hk => ?_, fun k hk => ?_, h.aa, fun i k hi hk => ?_, fun k hk => ?_, fun i k hik hk => ?_⟩
  · by_cases e : k = j
    · subst e
      rw [upd_same, upd_same]
      exact ⟨rfl, hc, by rw [hs]; exact h0⟩
    · rw [upd_off _ _ e] at hk
      rw [upd_off _ _ e, upd_off _ _ e]
      exact ⟨(h.c k hk).1, (hold k hk).1, (h.c k hk).2.2⟩
  · by_cases e : k = j
    · subst e
      have e2 : i ≠ k := by omega
      rw [upd_off _ _ e2] at hi
      rw [upd_same, upd_off _ _ e2, hs]
      exact (hold i hi).2
    · rw [upd_off _ _ e] at hk ⊢
      by_cases e2 : i = j
      · subst e2
        have := hlo k hik
        rw [hk] at this
        exact absurd this (by simp)
      · rw [upd_off _ _ e2] at hi ⊢
        exact h.cc i k hik hi hk
  · obtain ⟨h1, h2, h3⟩ := h.a k hk
    refine ⟨h1, h2, ?_⟩
    have h4 := h3.same (hb.block _ h3.lt)
    by_cases e : k = j
    · subst e
      unfold BoxIs at h4 ⊢
      rw [hsj] at h4 ⊢
      exact h4
    · rw [upd_off _ _ e]; exact h4
  · have hkl := (h.a k hk).2.2.lt
    by_cases e : i = j
    · subst e
      rw [upd_same, hs]
      exact .inl hkl
    · rw [upd_off _ _ e] at hi ⊢
      exact h.ac i k hi hk
  · obtain ⟨h1, h2⟩ := h.sc k hk
    refine ⟨?_, h2⟩
    by_cases e : k = j
    · subst e; exact upd_same _ _ _
    · rw [upd_off _ _ e]; exact h1
  · by_cases e2 : i = j
    · rw [e2]; exact upd_same _ _ _
    · rw [upd_off _ _ e2]
      by_cases e : k = j
      · exact hpre i (by omega)
      · rw [upd_off _ _ e] at hk
        exact h.ord i k hik hk
theorem StI.alloc (h : StI w0 w r rv lb cb ab sb vl vc va C z) (j : Nat) (hj : ab j = false) (hsz : w'.heap.size = w.heap.size + 1) (hbox : V3 w' w.heap.size nilS nilS nilS) (hb : Below w.heap.size w w') :
    StI w0 w' r rv lb cb (upd ab j true) sb vl vc (upd va j (.pointer (some ⟨w.heap.size, 0, none⟩))) C (upd z j w.heap.size) := by
  have h0 := h.bel.size
  have hz := hb.size
  have hsj : sb j = false := by
    cases hsb : sb j
    · rfl
    · have := (h.sc j hsb).2
      rw [hj] at this
      exact absurd this (by simp)
  refine ⟨h.bel.trans (hb.mono h0), h.l, fun k hk => ?_, h.cc, fun k hk => ?_, fun i k hik hi hk => ?_, fun i k hi hk => ?_, fun k hk => ?_, h.ord⟩
  · have hci := (h.c k hk).2.1
    exact ⟨(h.c k hk).1, hci.keep (fun q h1 h2 => hb.block q (by have := hci.e; omega)) hz, (h.c k hk).2.2⟩
  · by_cases e : k = j
    · subst e
      rw [upd_same, upd_same]
      refine ⟨rfl, h0, ?_⟩
      unfold BoxIs
      rw [hsj]
      exact hbox
    · rw [upd_off _ _ e] at hk
      obtain ⟨h1, h2, h3⟩ := h.a k hk
      rw [upd_off _ _ e, upd_off _ _ e]
      exact ⟨h1, h2, h3.same (hb.block _ h3.lt)⟩
  · by_cases e : i = j <;> by_cases e2 : k = j
    · omega
    · rw [upd_off _ _ e2] at hk
      have := (h.a k hk).2.2.lt
      rw [e, upd_same, upd_off _ _ e2]
      omega
    · rw [upd_off _ _ e] at hi
      have := (h.a i hi).2.2.lt
      rw [e2, upd_same, upd_off _ _ e]
      omega
    · rw [upd_off _ _ e] at hi
      rw [upd_off _ _ e2] at hk
      rw [upd_off _ _ e, upd_off _ _ e2]
      exact h.aa i k hik hi hk
  · by_cases e : k = j
    · subst e
      rw [upd_same]
      exact .inr (h.c i hi).2.1.e
    · rw [upd_off _ _ e] at hk ⊢
      exact h.ac i k hi hk
  · obtain ⟨h1, h2⟩ := h.sc k hk
    refine ⟨h1, ?_⟩
    by_cases e : k = j
    · subst e; exact upd_same _ _ _
    · rw [upd_off _ _ e]; exact h2
theorem StI.store (h : StI w0 w r rv lb cb ab sb vl vc va C z) (j : Nat) (ha : ab j = true) (hc : cb j = true) (hbox : V3 w' (z j) (.slice (C j).bA r.n (C j).bc) (.slice (C j).dA r.d (C j).dc) (.slice (C j).vA r.m (C j).vc)) (hk : ∀ i, i ≠ z j → w'.heap[i]? = w.heap[i]?) (hb : Below w0.heap.size w w') :
    StI w0 w' r rv lb cb ab (upd sb j true) vl vc va C z := by
  have hz := hb.size
  refine ⟨h.bel.trans hb, h.l, fun k hk' => ?_, h.cc, fun k hk' => ?_, h.aa, h.ac, fun k hk' => ?_, h.ord⟩
  · have hci := (h.c k hk').2.1
    exact ⟨(h.c k hk').1, hci.keep (fun q h1 h2 => hk q (by have := h.ac k j hk' ha; omega)) hz, (h.c k hk').2.2⟩
  · by_cases e : k = j
    · subst e
      obtain ⟨h1, h2, h3⟩ := h.a k hk'
      refine ⟨h1, h2, ?_⟩
      unfold BoxIs
      rw [upd_same]
      exact hbox
    · obtain ⟨h1, h2, h3⟩ := h.a k hk'
      rw [upd_off _ _ e]
      exact ⟨h1, h2, h3.same (hk _ (h.aa k j e hk' ha))⟩
  · by_cases e : k = j
    · subst e; exact ⟨hc, ha⟩
    · rw [upd_off _ _ e] at hk'
      exact h.sc k hk'
end
/-- what the region leaves: four copies, each in a box of its own -/
structure Four (w0 w : World) (r : Rw) (C : Nat → Cp) (z : Nat → Nat) : Prop where
  bel : Below w0.heap.size w0 w
  c : ∀ j, j < 4 → CpAt w r (C j) ∧ w0.heap.size ≤ (C j).s
  cc : ∀ i j, i < j → j < 4 → (C i).e ≤ (C j).s
  a : ∀ j, j < 4 → w0.heap.size ≤ z j ∧ V3 w (z j) (.slice (C j).bA r.n (C j).bc) (.slice (C j).dA r.d (C j).dc) (.slice (C j).vA r.m (C j).vc)
  aa : ∀ i j, i ≠ j → i < 4 → j < 4 → z i ≠ z j
  ac : ∀ i j, i < 4 → j < 4 → z j < (C i).s ∨ (C i).e ≤ z j
end Go.Proofs.Ytnnikeolgknfoaa

set_option linter.unusedSimpArgs false
set_option linter.unusedVariables false
namespace Go.Proofs.Ytnnikeolgknfoaa
open Go.RowKit Go.Shelf

theorem wpOp_shut {P : Program} {ops : Array Oper} {Q : Exit → Act → World → Prop} {i : Nat} {o : Oper} {K : Act → World → Prop} {a : Act} {w : World} (ho : ops[i]? = some o)
    (h : ∀ K' : Act → World → Prop, Shut (∀ a w, K a w → K' a w) → if Region.wanted o (yielded ops a.tmps) = true then Oper.wp P o a w K' Q else K' (a.put o.dst undef) w) : wpOp P ops Q i K a w :=
  wpOp_step ho h
theorem ready_nil {md : Region.Mode} {ops : Array Oper} {l : Array Bool} {i : Nat} {o : Oper} (hr : Region.ready md ops l = []) (ho : ops[i]? = some o) (hd : (o.after.toList.all fun e => !Region.binds md e || l.getD e.on false) = true) : l.getD i true = true := by
  cases h : l.getD i true
  · have : i ∈ Region.ready md ops l := mem_ready.2 ⟨h, o, ho, fun e he hb => by
      have := (List.all_eq_true.1 hd) e (Array.mem_toList_iff.2 he)
      rw [hb] at this
      exact this⟩
    rw [hr] at this
    exact absurd this (by simp)
  · rfl
theorem V3.three {w : World} {b : Nat} {x y z : Value} (h : V3 w b x y z) (u v t : Value) : V3 (((w.setCell ⟨b, 0, none⟩ u).setCell ⟨b, 1, none⟩ v).setCell ⟨b, 2, none⟩ t) b u v t := ((h.set0 u).set1 v).set2 t
theorem V3.new (w : World) (t : TypeId) (x y z : Value) : V3 (w.alloc (.cells #[x, y, z] t)) w.heap.size x y z := ⟨(by (repeat' refine And.intro ?_ ?_) <;> (repeat (first | (with_reducible assumption) | (simp; done) | (with_reducible refine cell_drew_of ?_) | (with_reducible refine cell_drewN_of ?_) | (with_reducible refine cell_below_of (by with_reducible assumption) ?_) | ((with_reducible refine cell_new_of ?_ ?_) <;> (first | (with_reducible rfl) | (simp; done))) | ((with_reducible refine fro_new_of ?_) <;> (first | (with_reducible rfl) | (simp; done))) | (with_reducible refine cell_alloc_of _ ?_) | (with_reducible refine cell_set_of _ (by (first | exact Nat.le_refl _ | omega | (simp; done) | (simp; omega))) ?_) | (with_reducible refine fro_drew_of ?_) | (with_reducible refine fro_drewN_of ?_) | (with_reducible refine fro_below_of (by with_reducible assumption) (by (first | exact Nat.le_refl _ | omega | (simp; done) | (simp; omega))) ?_) | (with_reducible refine fro_alloc_of _ (by (first | exact Nat.le_refl _ | omega | (simp; done) | (simp; omega))) ?_) | (with_reducible refine fro_set_of _ ?_)))), (by (repeat' refine And.intro ?_ ?_) <;> (repeat (first | (with_reducible assumption) | (simp; done) | (with_reducible refine cell_drew_of ?_) | (with_reducible refine cell_drewN_of ?_) | (with_reducible refine cell_below_of (by with_reducible assumption) ?_) | ((with_reducible refine cell_new_of ?_ ?_) <;> (first | (with_reducible rfl) | (simp; done))) | ((with_reducible refine fro_new_of ?_) <;> (first | (with_reducible rfl) | (simp; done))) | (with_reducible refine cell_alloc_of _ ?_) | (with_reducible refine cell_set_of _ (by (first | exact Nat.le_refl _ | omega | (simp; done) | (simp; omega))) ?_) | (with_reducible refine fro_drew_of ?_) | (with_reducible refine fro_drewN_of ?_) | (with_reducible refine fro_below_of (by with_reducible assumption) (by (first | exact Nat.le_refl _ | omega | (simp; done) | (simp; omega))) ?_) | (with_reducible refine fro_alloc_of _ (by (first | exact Nat.le_refl _ | omega | (simp; done) | (simp; omega))) ?_) | (with_reducible refine fro_set_of _ ?_)))), (by (repeat' refine And.intro ?_ ?_) <;> (repeat (first | (with_reducible assumption) | (simp; done) | (with_reducible refine cell_drew_of ?_) | (with_reducible refine cell_drewN_of ?_) | (with_reducible refine cell_below_of (by with_reducible assumption) ?_) | ((with_reducible refine cell_new_of ?_ ?_) <;> (first | (with_reducible rfl) | (simp; done))) | ((with_reducible refine fro_new_of ?_) <;> (first | (with_reducible rfl) | (simp; done))) | (with_reducible refine cell_alloc_of _ ?_) | (with_reducible refine cell_set_of _ (by (first | exact Nat.le_refl _ | omega | (simp; done) | (simp; omega))) ?_) | (with_reducible refine fro_drew_of ?_) | (with_reducible refine fro_drewN_of ?_) | (with_reducible refine fro_below_of (by with_reducible assumption) (by (first | exact Nat.le_refl _ | omega | (simp; done) | (simp; omega))) ?_) | (with_reducible refine fro_alloc_of _ (by (first | exact Nat.le_refl _ | omega | (simp; done) | (simp; omega))) ?_) | (with_reducible refine fro_set_of _ ?_)))), (by (repeat' refine And.intro ?_ ?_) <;> (repeat (first | (with_reducible assumption) | (simp; done) | (with_reducible refine cell_drew_of ?_) | (with_reducible refine cell_drewN_of ?_) | (with_reducible refine cell_below_of (by with_reducible assumption) ?_) | ((with_reducible refine cell_new_of ?_ ?_) <;> (first | (with_reducible rfl) | (simp; done))) | ((with_reducible refine fro_new_of ?_) <;> (first | (with_reducible rfl) | (simp; done))) | (with_reducible refine cell_alloc_of _ ?_) | (with_reducible refine cell_set_of _ (by (first | exact Nat.le_refl _ | omega | (simp; done) | (simp; omega))) ?_) | (with_reducible refine fro_drew_of ?_) | (with_reducible refine fro_drewN_of ?_) | (with_reducible refine fro_below_of (by with_reducible assumption) (by (first | exact Nat.le_refl _ | omega | (simp; done) | (simp; omega))) ?_) | (with_reducible refine fro_alloc_of _ (by (first | exact Nat.le_refl _ | omega | (simp; done) | (simp; omega))) ?_) | (with_reducible refine fro_set_of _ ?_)))), (by (repeat' refine And.intro ?_ ?_) <;> (repeat (first | (with_reducible assumption) | (simp; done) | (with_reducible refine cell_drew_of ?_) | (with_reducible refine cell_drewN_of ?_) | (with_reducible refine cell_below_of (by with_reducible assumption) ?_) | ((with_reducible refine cell_new_of ?_ ?_) <;> (first | (with_reducible rfl) | (simp; done))) | ((with_reducible refine fro_new_of ?_) <;> (first | (with_reducible rfl) | (simp; done))) | (with_reducible refine cell_alloc_of _ ?_) | (with_reducible refine cell_set_of _ (by (first | exact Nat.le_refl _ | omega | (simp; done) | (simp; omega))) ?_) | (with_reducible refine fro_drew_of ?_) | (with_reducible refine fro_drewN_of ?_) | (with_reducible refine fro_below_of (by with_reducible assumption) (by (first | exact Nat.le_refl _ | omega | (simp; done) | (simp; omega))) ?_) | (with_reducible refine fro_alloc_of _ (by (first | exact Nat.le_refl _ | omega | (simp; done) | (simp; omega))) ?_) | (with_reducible refine fro_set_of _ ?_)))), (by (repeat' refine And.intro ?_ ?_) <;> (repeat (first | (with_reducible assumption) | (simp; done) | (with_reducible refine cell_drew_of ?_) | (with_reducible refine cell_drewN_of ?_) | (with_reducible refine cell_below_of (by with_reducible assumption) ?_) | ((with_reducible refine cell_new_of ?_ ?_) <;> (first | (with_reducible rfl) | (simp; done))) | ((with_reducible refine fro_new_of ?_) <;> (first | (with_reducible rfl) | (simp; done))) | (with_reducible refine cell_alloc_of _ ?_) | (with_reducible refine cell_set_of _ (by (first | exact Nat.le_refl _ | omega | (simp; done) | (simp; omega))) ?_) | (with_reducible refine fro_drew_of ?_) | (with_reducible refine fro_drewN_of ?_) | (with_reducible refine fro_below_of (by with_reducible assumption) (by (first | exact Nat.le_refl _ | omega | (simp; done) | (simp; omega))) ?_) | (with_reducible refine fro_alloc_of _ (by (first | exact Nat.le_refl _ | omega | (simp; done) | (simp; omega))) ?_) | (with_reducible refine fro_set_of _ ?_))))⟩

set_option maxRecDepth 100000 in
set_option maxHeartbeats 8000000 in
theorem more_reg3 (r : Rw) (hn1 : 1 ≤ r.n) (hd1 : 1 ≤ r.d) (rx : Nat) (bA dA vA : Option Addr) (bc dc vc0 : Nat) {u0 u1 u2 u3 u4 u6 u7 u8 u9 u10 u11 u12 u13 u14 u15 u16 u17 u18 u19 u20 u21 u22 u23 u24 u25 u26 u27 u28 u29 u30 u31 u32 u33 u34 u35 u36 u37 u38 u39 u40 u41 u42 u43 u44 u45 u46 u47 u48 u49 u50 u51 u52 u53 u54 u55 u56 u57 u58 u59 u60 u61 u62 u63 u64 u65 u66 u67 u68 u69 u70 u71 u72 u73 u74 u75 u76 u77 u78 u79 u80 u81 u82 u83 u84 u85 u86 u87 u88 u89 u90 u91 u92 u93 u94 u95 u96 u97 u98 u99 u100 u101 u102 u103 u104 u105 u106 u107 u108 u109 u110 u111 u112 u113 u114 u115 u116 u117 u118 u119 u120 u121 u122 u123 u124 u125 u126 u127 u128 u129 u130 u131 u132 u133 u134 u135 u136 u137 u138 u139 u140 u141 u142 u143 u144 u145 u146 u147 u148 u149 u150 u151 u152 u153 u154 u155 u156 u157 u158 u159 u160 u161 u162 u163 u164 u165 u166 u167 u168 u169 u170 u171 u172 u173 u174 u175 u176 u177 u178 u179 u180 u181 u182 u183 u184 u185 u186 u187 u188 u189 u190 u191 u192 u193 u194 u195 u196 u197 u198 u199 u200 u201 u202 u203 u204 u205 u206 u207 u208 u209 u210 u211 u212 u213 u214 u215 u216 u217 u218 u219 u220 u221 u222 u223 u224 u225 u226 u227 u228 u229 : Value} (w4 : World) (HA : Hid (RwAt w4 rx r bA bc dA dc vA vc0)) (HR : Hid (RwRow w4 w4.heap.size r bA bc dA dc vA vc0))
    (Q : Exit → Act → World → Prop) (hK : ∀ {x35 x36 x37 x38 x39 x40 x41 x42 : Value} (C : Nat → Cp) (z : Nat → Nat) (w' : World), Hid (Four w4 w' r C z) → Q .normal ⟨(List.toArray (u0 :: u1 :: u2 :: u3 :: u4 :: (.pointer (some ⟨rx, 0, none⟩)) :: u6 :: u7 :: (.pointer (some ⟨z 0, 0, none⟩)) :: (.pointer (some ⟨z 1, 0, none⟩)) :: (.pointer (some ⟨z 2, 0, none⟩)) :: (.pointer (some ⟨z 3, 0, none⟩)) :: u12 :: u13 :: u14 :: u15 :: u16 :: u17 :: u18 :: u19 :: u20 :: u21 :: u22 :: u23 :: u24 :: u25 :: u26 :: u27 :: u28 :: u29 :: u30 :: u31 :: u32 :: u33 :: u34 :: x35 :: x36 :: x37 :: x38 :: x39 :: x40 :: x41 :: x42 :: u43 :: u44 :: u45 :: u46 :: u47 :: u48 :: u49 :: u50 :: u51 :: u52 :: u53 :: u54 :: u55 :: u56 :: u57 :: u58 :: u59 :: u60 :: u61 :: u62 :: u63 :: u64 :: u65 :: u66 :: u67 :: u68 :: u69 :: u70 :: u71 :: u72 :: u73 :: u74 :: u75 :: u76 :: u77 :: u78 :: u79 :: u80 :: u81 :: u82 :: u83 :: u84 :: u85 :: u86 :: u87 :: u88 :: u89 :: u90 :: u91 :: u92 :: u93 :: u94 :: u95 :: u96 :: u97 :: u98 :: u99 :: u100 :: u101 :: u102 :: u103 :: u104 :: u105 :: u106 :: u107 :: u108 :: u109 :: u110 :: u111 :: u112 :: u113 :: u114 :: u115 :: u116 :: u117 :: u118 :: u119 :: u120 :: u121 :: u122 :: u123 :: u124 :: u125 :: u126 :: u127 :: u128 :: u129 :: u130 :: u131 :: u132 :: u133 :: u134 :: u135 :: u136 :: u137 :: u138 :: u139 :: u140 :: u141 :: u142 :: u143 :: u144 :: u145 :: u146 :: u147 :: u148 :: u149 :: u150 :: u151 :: u152 :: u153 :: u154 :: u155 :: u156 :: u157 :: u158 :: u159 :: u160 :: u161 :: u162 :: u163 :: u164 :: u165 :: u166 :: u167 :: u168 :: u169 :: u170 :: u171 :: u172 :: u173 :: u174 :: u175 :: u176 :: u177 :: u178 :: u179 :: u180 :: u181 :: u182 :: u183 :: u184 :: u185 :: u186 :: u187 :: u188 :: u189 :: u190 :: u191 :: u192 :: u193 :: u194 :: u195 :: u196 :: u197 :: u198 :: u199 :: u200 :: u201 :: u202 :: u203 :: u204 :: u205 :: u206 :: u207 :: u208 :: u209 :: u210 :: u211 :: u212 :: u213 :: u214 :: u215 :: u216 :: u217 :: u218 :: u219 :: u220 :: u221 :: u222 :: u223 :: u224 :: u225 :: u226 :: u227 :: u228 :: u229 :: [])), []⟩ w') :
    Code.wp Try.prog (rgIn Try.f3 3) Q ⟨(List.toArray (u0 :: u1 :: u2 :: u3 :: u4 :: (.pointer (some ⟨rx, 0, none⟩)) :: u6 :: u7 :: u8 :: u9 :: u10 :: u11 :: u12 :: u13 :: u14 :: u15 :: u16 :: u17 :: u18 :: u19 :: u20 :: u21 :: u22 :: u23 :: u24 :: u25 :: u26 :: u27 :: u28 :: u29 :: u30 :: u31 :: u32 :: u33 :: u34 :: u35 :: u36 :: u37 :: u38 :: u39 :: u40 :: u41 :: u42 :: u43 :: u44 :: u45 :: u46 :: u47 :: u48 :: u49 :: u50 :: u51 :: u52 :: u53 :: u54 :: u55 :: u56 :: u57 :: u58 :: u59 :: u60 :: u61 :: u62 :: u63 :: u64 :: u65 :: u66 :: u67 :: u68 :: u69 :: u70 :: u71 :: u72 :: u73 :: u74 :: u75 :: u76 :: u77 :: u78 :: u79 :: u80 :: u81 :: u82 :: u83 :: u84 :: u85 :: u86 :: u87 :: u88 :: u89 :: u90 :: u91 :: u92 :: u93 :: u94 :: u95 :: u96 :: u97 :: u98 :: u99 :: u100 :: u101 :: u102 :: u103 :: u104 :: u105 :: u106 :: u107 :: u108 :: u109 :: u110 :: u111 :: u112 :: u113 :: u114 :: u115 :: u116 :: u117 :: u118 :: u119 :: u120 :: u121 :: u122 :: u123 :: u124 :: u125 :: u126 :: u127 :: u128 :: u129 :: u130 :: u131 :: u132 :: u133 :: u134 :: u135 :: u136 :: u137 :: u138 :: u139 :: u140 :: u141 :: u142 :: u143 :: u144 :: u145 :: u146 :: u147 :: u148 :: u149 :: u150 :: u151 :: u152 :: u153 :: u154 :: u155 :: u156 :: u157 :: u158 :: u159 :: u160 :: u161 :: u162 :: u163 :: u164 :: u165 :: u166 :: u167 :: u168 :: u169 :: u170 :: u171 :: u172 :: u173 :: u174 :: u175 :: u176 :: u177 :: u178 :: u179 :: u180 :: u181 :: u182 :: u183 :: u184 :: u185 :: u186 :: u187 :: u188 :: u189 :: u190 :: u191 :: u192 :: u193 :: u194 :: u195 :: u196 :: u197 :: u198 :: u199 :: u200 :: u201 :: u202 :: u203 :: u204 :: u205 :: u206 :: u207 :: u208 :: u209 :: u210 :: u211 :: u212 :: u213 :: u214 :: u215 :: u216 :: u217 :: u218 :: u219 :: u220 :: u221 :: u222 :: u223 :: u224 :: u225 :: u226 :: u227 :: u228 :: u229 :: [])), []⟩ w4 := by
  (conv => arg 2; whnf)
  refine wp_region_inv (fun l a w => ∃ (lb cb ab sb : Nat → Bool) (vl vc va : Nat → Value) (C : Nat → Cp) (z : Nat → Nat), l = #[lb 0, cb 0, lb 1, cb 1, lb 2, cb 2, lb 3, cb 3, ab 0, ab 1, ab 2, ab 3, sb 0, sb 1, sb 2, sb 3] ∧ a = ⟨(List.toArray (u0 :: u1 :: u2 :: u3 :: u4 :: (.pointer (some ⟨rx, 0, none⟩)) :: u6 :: u7 :: (va 0) :: (va 1) :: (va 2) :: (va 3) :: u12 :: u13 :: u14 :: u15 :: u16 :: u17 :: u18 :: u19 :: u20 :: u21 :: u22 :: u23 :: u24 :: u25 :: u26 :: u27 :: u28 :: u29 :: u30 :: u31 :: u32 :: u33 :: u34 :: (vl 0) :: (vc 0) :: (vl 1) :: (vc 1) :: (vl 2) :: (vc 2) :: (vl 3) :: (vc 3) :: u43 :: u44 :: u45 :: u46 :: u47 :: u48 :: u49 :: u50 :: u51 :: u52 :: u53 :: u54 :: u55 :: u56 :: u57 :: u58 :: u59 :: u60 :: u61 :: u62 :: u63 :: u64 :: u65 :: u66 :: u67 :: u68 :: u69 :: u70 :: u71 :: u72 :: u73 :: u74 :: u75 :: u76 :: u77 :: u78 :: u79 :: u80 :: u81 :: u82 :: u83 :: u84 :: u85 :: u86 :: u87 :: u88 :: u89 :: u90 :: u91 :: u92 :: u93 :: u94 :: u95 :: u96 :: u97 :: u98 :: u99 :: u100 :: u101 :: u102 :: u103 :: u104 :: u105 :: u106 :: u107 :: u108 :: u109 :: u110 :: u111 :: u112 :: u113 :: u114 :: u115 :: u116 :: u117 :: u118 :: u119 :: u120 :: u121 :: u122 :: u123 :: u124 :: u125 :: u126 :: u127 :: u128 :: u129 :: u130 :: u131 :: u132 :: u133 :: u134 :: u135 :: u136 :: u137 :: u138 :: u139 :: u140 :: u141 :: u142 :: u143 :: u144 :: u145 :: u146 :: u147 :: u148 :: u149 :: u150 :: u151 :: u152 :: u153 :: u154 :: u155 :: u156 :: u157 :: u158 :: u159 :: u160 :: u161 :: u162 :: u163 :: u164 :: u165 :: u166 :: u167 :: u168 :: u169 :: u170 :: u171 :: u172 :: u173 :: u174 :: u175 :: u176 :: u177 :: u178 :: u179 :: u180 :: u181 :: u182 :: u183 :: u184 :: u185 :: u186 :: u187 :: u188 :: u189 :: u190 :: u191 :: u192 :: u193 :: u194 :: u195 :: u196 :: u197 :: u198 :: u199 :: u200 :: u201 :: u202 :: u203 :: u204 :: u205 :: u206 :: u207 :: u208 :: u209 :: u210 :: u211 :: u212 :: u213 :: u214 :: u215 :: u216 :: u217 :: u218 :: u219 :: u220 :: u221 :: u222 :: u223 :: u224 :: u225 :: u226 :: u227 :: u228 :: u229 :: [])), []⟩ ∧ StI w4 w r (rwV bA r.n bc dA r.d dc vA r.m vc0) lb cb ab sb vl vc va C z) (by kernel_rfl) ?start ?step ?fin
  case start => exact ⟨fun _ => false, fun _ => false, fun _ => false, fun _ => false, fun j => if j = 0 then u35 else if j = 1 then u37 else if j = 2 then u39 else u41, fun j => if j = 0 then u36 else if j = 1 then u38 else if j = 2 then u40 else u42, fun j => if j = 0 then u8 else if j = 1 then u9 else if j = 2 then u10 else u11, fun _ => ⟨none, none, none, 0, 0, 0, 0, 0, 0⟩, fun _ => 0, by rfl, rfl, StI.zero _ _ _ _ _ _ _ _⟩
  case step =>
    rintro l a w ⟨lb, cb, ab, sb, vl, vc, va, C, z, rfl, rfl, hS⟩ i hi
    obtain ⟨hi0, o, ho, hall⟩ := mem_ready.1 hi
    have hlt : i < 16 := (Array.getElem?_eq_some_iff.1 ho).1
    have HS := Lib.hid hS
    have HAw := Lib.hid (HA.out.later hS.bel)
    have HRw := Lib.hid (HR.out.on hS.bel)
    clear hS hi hK
    rcases (show i = 0 ∨ i = 1 ∨ i = 2 ∨ i = 3 ∨ i = 4 ∨ i = 5 ∨ i = 6 ∨ i = 7 ∨ i = 8 ∨ i = 9 ∨ i = 10 ∨ i = 11 ∨ i = 12 ∨ i = 13 ∨ i = 14 ∨ i = 15 by omega) with rfl | rfl | rfl | rfl | rfl | rfl | rfl | rfl | rfl | rfl | rfl | rfl | rfl | rfl | rfl | rfl
    all_goals
      obtain rfl := Option.some.inj ho
      clear ho
    -- 0
    · clear hall hi0
      refine wpOp_shut rfl (fun K' hK' => ?_)
      rw [if_pos (by rfl)]
      obtain ⟨c0, c1, c2⟩ := HAw.out
      go_simp
      exact hK'.out _ _ ⟨upd lb 0 true, cb, ab, sb, upd vl 0 _, vc, va, C, z, rfl, rfl, HS.out.load 0⟩
    -- 1
    · have hj : cb 0 = false := hi0
      have hl : lb 0 = true := hall ⟨0, .data⟩ (by simp) rfl
      have hv := HS.out.l 0 hl
      have hpre : ∀ t, t < 0 → cb t = true := fun t ht => absurd ht (by omega)
      clear hall hi0
      rw [hv]
      refine wpOp_shut rfl (fun K' hK' => ?_)
      rw [if_pos (by rfl)]
      go_simp
      refine (own2_any r hn1 hd1 bA dA vA bc dc vc0 _ HRw.out).mono ?_
      intro e w' hpost
      obtain ⟨c, rfl, hc, hcs, hce, hb⟩ := CpAt.of hn1 hd1 hpost
      exact hK'.out _ _ ⟨lb, upd cb 0 true, ab, sb, vl, upd vc 0 _, va, upd C 0 c, z, rfl, by rw [← hv]; rfl, HS.out.call 0 hj hpre hc hcs hce hb⟩
    -- 2
    · clear hall hi0
      refine wpOp_shut rfl (fun K' hK' => ?_)
      rw [if_pos (by rfl)]
      obtain ⟨c0, c1, c2⟩ := HAw.out
      go_simp
      exact hK'.out _ _ ⟨upd lb 1 true, cb, ab, sb, upd vl 1 _, vc, va, C, z, rfl, rfl, HS.out.load 1⟩
    -- 3
    · have hj : cb 1 = false := hi0
      have hl : lb 1 = true := hall ⟨2, .data⟩ (by simp) rfl
      have hv := HS.out.l 1 hl
      have hp : cb 0 = true := hall ⟨1, .chain⟩ (by simp) rfl
      have hpre : ∀ t, t < 1 → cb t = true := fun t ht => by
        by_cases e : t = 0
        · rw [e]; exact hp
        · exact HS.out.ord t 0 (by omega) hp
      clear hall hi0
      rw [hv]
      refine wpOp_shut rfl (fun K' hK' => ?_)
      rw [if_pos (by rfl)]
      go_simp
      refine (own2_any r hn1 hd1 bA dA vA bc dc vc0 _ HRw.out).mono ?_
      intro e w' hpost
      obtain ⟨c, rfl, hc, hcs, hce, hb⟩ := CpAt.of hn1 hd1 hpost
      exact hK'.out _ _ ⟨lb, upd cb 1 true, ab, sb, vl, upd vc 1 _, va, upd C 1 c, z, rfl, by rw [← hv]; rfl, HS.out.call 1 hj hpre hc hcs hce hb⟩
    -- 4
    · clear hall hi0
      refine wpOp_shut rfl (fun K' hK' => ?_)
      rw [if_pos (by rfl)]
      obtain ⟨c0, c1, c2⟩ := HAw.out
      go_simp
      exact hK'.out _ _ ⟨upd lb 2 true, cb, ab, sb, upd vl 2 _, vc, va, C, z, rfl, rfl, HS.out.load 2⟩
    -- 5
    · have hj : cb 2 = false := hi0
      have hl : lb 2 = true := hall ⟨4, .data⟩ (by simp) rfl
      have hv := HS.out.l 2 hl
      have hp : cb 1 = true := hall ⟨3, .chain⟩ (by simp) rfl
      have hpre : ∀ t, t < 2 → cb t = true := fun t ht => by
        by_cases e : t = 1
        · rw [e]; exact hp
        · exact HS.out.ord t 1 (by omega) hp
      clear hall hi0
      rw [hv]
      refine wpOp_shut rfl (fun K' hK' => ?_)
      rw [if_pos (by rfl)]
      go_simp
      refine (own2_any r hn1 hd1 bA dA vA bc dc vc0 _ HRw.out).mono ?_
      intro e w' hpost
      obtain ⟨c, rfl, hc, hcs, hce, hb⟩ := CpAt.of hn1 hd1 hpost
      exact hK'.out _ _ ⟨lb, upd cb 2 true, ab, sb, vl, upd vc 2 _, va, upd C 2 c, z, rfl, by rw [← hv]; rfl, HS.out.call 2 hj hpre hc hcs hce hb⟩
    -- 6
    · clear hall hi0
      refine wpOp_shut rfl (fun K' hK' => ?_)
      rw [if_pos (by rfl)]
      obtain ⟨c0, c1, c2⟩ := HAw.out
      go_simp
      exact hK'.out _ _ ⟨upd lb 3 true, cb, ab, sb, upd vl 3 _, vc, va, C, z, rfl, rfl, HS.out.load 3⟩
    -- 7
    · have hj : cb 3 = false := hi0
      have hl : lb 3 = true := hall ⟨6, .data⟩ (by simp) rfl
      have hv := HS.out.l 3 hl
      have hp : cb 2 = true := hall ⟨5, .chain⟩ (by simp) rfl
      have hpre : ∀ t, t < 3 → cb t = true := fun t ht => by
        by_cases e : t = 2
        · rw [e]; exact hp
        · exact HS.out.ord t 2 (by omega) hp
      clear hall hi0
      rw [hv]
      refine wpOp_shut rfl (fun K' hK' => ?_)
      rw [if_pos (by rfl)]
      go_simp
      refine (own2_any r hn1 hd1 bA dA vA bc dc vc0 _ HRw.out).mono ?_
      intro e w' hpost
      obtain ⟨c, rfl, hc, hcs, hce, hb⟩ := CpAt.of hn1 hd1 hpost
      exact hK'.out _ _ ⟨lb, upd cb 3 true, ab, sb, vl, upd vc 3 _, va, upd C 3 c, z, rfl, by rw [← hv]; rfl, HS.out.call 3 hj hpre hc hcs hce hb⟩
    -- 8
    · have hj : ab 0 = false := hi0
      clear hall hi0
      refine wpOp_shut rfl (fun K' hK' => ?_)
      rw [if_pos (by rfl)]
      go_simp
      exact hK'.out _ _ ⟨lb, cb, upd ab 0 true, sb, vl, vc, upd va 0 _, C, upd z 0 _, rfl, rfl, HS.out.alloc 0 hj (by simp) (V3.new _ _ _ _ _) (by repeat (first | (with_reducible exact Below.refl _ _) | (with_reducible assumption) | (with_reducible refine Below.drew ?_) | ((with_reducible refine below_alloc ?_ ?_ _); (· (first | exact Nat.le_refl _ | omega | (dsimp only; omega) | (simp only [World.size_alloc, World.size_drew, World.heap_drewN]; omega) | (simp; omega)))) | ((with_reducible refine below_set ?_ ?_ _); (· (first | exact Nat.le_refl _ | omega | (dsimp only; omega) | (simp only [World.size_alloc, World.size_drew, World.heap_drewN]; omega) | (simp; omega)))) | ((with_reducible refine below_via (by with_reducible assumption) ?_ ?_); (· (first | exact Nat.le_refl _ | omega | (dsimp only; omega) | (simp only [World.size_alloc, World.size_drew, World.heap_drewN]; omega) | (simp; omega))))))⟩
    -- 9
    · have hj : ab 1 = false := hi0
      clear hall hi0
      refine wpOp_shut rfl (fun K' hK' => ?_)
      rw [if_pos (by rfl)]
      go_simp
      exact hK'.out _ _ ⟨lb, cb, upd ab 1 true, sb, vl, vc, upd va 1 _, C, upd z 1 _, rfl, rfl, HS.out.alloc 1 hj (by simp) (V3.new _ _ _ _ _) (by repeat (first | (with_reducible exact Below.refl _ _) | (with_reducible assumption) | (with_reducible refine Below.drew ?_) | ((with_reducible refine below_alloc ?_ ?_ _); (· (first | exact Nat.le_refl _ | omega | (dsimp only; omega) | (simp only [World.size_alloc, World.size_drew, World.heap_drewN]; omega) | (simp; omega)))) | ((with_reducible refine below_set ?_ ?_ _); (· (first | exact Nat.le_refl _ | omega | (dsimp only; omega) | (simp only [World.size_alloc, World.size_drew, World.heap_drewN]; omega) | (simp; omega)))) | ((with_reducible refine below_via (by with_reducible assumption) ?_ ?_); (· (first | exact Nat.le_refl _ | omega | (dsimp only; omega) | (simp only [World.size_alloc, World.size_drew, World.heap_drewN]; omega) | (simp; omega))))))⟩
    -- 10
    · have hj : ab 2 = false := hi0
      clear hall hi0
      refine wpOp_shut rfl (fun K' hK' => ?_)
      rw [if_pos (by rfl)]
      go_simp
      exact hK'.out _ _ ⟨lb, cb, upd ab 2 true, sb, vl, vc, upd va 2 _, C, upd z 2 _, rfl, rfl, HS.out.alloc 2 hj (by simp) (V3.new _ _ _ _ _) (by repeat (first | (with_reducible exact Below.refl _ _) | (with_reducible assumption) | (with_reducible refine Below.drew ?_) | ((with_reducible refine below_alloc ?_ ?_ _); (· (first | exact Nat.le_refl _ | omega | (dsimp only; omega) | (simp only [World.size_alloc, World.size_drew, World.heap_drewN]; omega) | (simp; omega)))) | ((with_reducible refine below_set ?_ ?_ _); (· (first | exact Nat.le_refl _ | omega | (dsimp only; omega) | (simp only [World.size_alloc, World.size_drew, World.heap_drewN]; omega) | (simp; omega)))) | ((with_reducible refine below_via (by with_reducible assumption) ?_ ?_); (· (first | exact Nat.le_refl _ | omega | (dsimp only; omega) | (simp only [World.size_alloc, World.size_drew, World.heap_drewN]; omega) | (simp; omega))))))⟩
    -- 11
    · have hj : ab 3 = false := hi0
      clear hall hi0
      refine wpOp_shut rfl (fun K' hK' => ?_)
      rw [if_pos (by rfl)]
      go_simp
      exact hK'.out _ _ ⟨lb, cb, upd ab 3 true, sb, vl, vc, upd va 3 _, C, upd z 3 _, rfl, rfl, HS.out.alloc 3 hj (by simp) (V3.new _ _ _ _ _) (by repeat (first | (with_reducible exact Below.refl _ _) | (with_reducible assumption) | (with_reducible refine Below.drew ?_) | ((with_reducible refine below_alloc ?_ ?_ _); (· (first | exact Nat.le_refl _ | omega | (dsimp only; omega) | (simp only [World.size_alloc, World.size_drew, World.heap_drewN]; omega) | (simp; omega)))) | ((with_reducible refine below_set ?_ ?_ _); (· (first | exact Nat.le_refl _ | omega | (dsimp only; omega) | (simp only [World.size_alloc, World.size_drew, World.heap_drewN]; omega) | (simp; omega)))) | ((with_reducible refine below_via (by with_reducible assumption) ?_ ?_); (· (first | exact Nat.le_refl _ | omega | (dsimp only; omega) | (simp only [World.size_alloc, World.size_drew, World.heap_drewN]; omega) | (simp; omega))))))⟩
    -- 12
    · have ha : ab 0 = true := hall ⟨8, .data⟩ (by simp) rfl
      have hc : cb 0 = true := hall ⟨1, .data⟩ (by simp) rfl
      have hs : sb 0 = false := hi0
      clear hall hi0
      obtain ⟨hva, hzl, hbx⟩ := HS.out.a 0 ha
      have hvc := (HS.out.c 0 hc).1
      unfold BoxIs at hbx
      rw [hs] at hbx
      have HBX := Lib.hid (V3.three hbx (.slice (C 0).bA r.n (C 0).bc) (.slice (C 0).dA r.d (C 0).dc) (.slice (C 0).vA r.m (C 0).vc))
      obtain ⟨c0, c1, c2, f0, f1, f2⟩ := hbx
      rw [hva, hvc]
      refine wpOp_shut rfl (fun K' hK' => ?_)
      rw [if_pos (by rfl)]
      go_simp
      exact hK'.out _ _ ⟨lb, cb, ab, upd sb 0 true, vl, vc, va, C, z, rfl, by rw [← hva, ← hvc], HS.out.store 0 ha hc HBX.out (fun i hi => (set_heap _ (by exact hi)).trans ((set_heap _ (by exact hi)).trans (set_heap _ (by exact hi)))) ((((Below.refl _ w).setCell (by dsimp only; omega) _).setCell (by dsimp only; omega) _).setCell (by dsimp only; omega) _)⟩
    -- 13
    · have ha : ab 1 = true := hall ⟨9, .data⟩ (by simp) rfl
      have hc : cb 1 = true := hall ⟨3, .data⟩ (by simp) rfl
      have hs : sb 1 = false := hi0
      clear hall hi0
      obtain ⟨hva, hzl, hbx⟩ := HS.out.a 1 ha
      have hvc := (HS.out.c 1 hc).1
      unfold BoxIs at hbx
      rw [hs] at hbx
      have HBX := Lib.hid (V3.three hbx (.slice (C 1).bA r.n (C 1).bc) (.slice (C 1).dA r.d (C 1).dc) (.slice (C 1).vA r.m (C 1).vc))
      obtain ⟨c0, c1, c2, f0, f1, f2⟩ := hbx
      rw [hva, hvc]
      refine wpOp_shut rfl (fun K' hK' => ?_)
      rw [if_pos (by rfl)]
      go_simp
      exact hK'.out _ _ ⟨lb, cb, ab, upd sb 1 true, vl, vc, va, C, z, rfl, by rw [← hva, ← hvc], HS.out.store 1 ha hc HBX.out (fun i hi => (set_heap _ (by exact hi)).trans ((set_heap _ (by exact hi)).trans (set_heap _ (by exact hi)))) ((((Below.refl _ w).setCell (by dsimp only; omega) _).setCell (by dsimp only; omega) _).setCell (by dsimp only; omega) _)⟩
    -- 14
    · have ha : ab 2 = true := hall ⟨10, .data⟩ (by simp) rfl
      have hc : cb 2 = true := hall ⟨5, .data⟩ (by simp) rfl
      have hs : sb 2 = false := hi0
      clear hall hi0
      obtain ⟨hva, hzl, hbx⟩ := HS.out.a 2 ha
      have hvc := (HS.out.c 2 hc).1
      unfold BoxIs at hbx
      rw [hs] at hbx
      have HBX := Lib.hid (V3.three hbx (.slice (C 2).bA r.n (C 2).bc) (.slice (C 2).dA r.d (C 2).dc) (.slice (C 2).vA r.m (C 2).vc))
      obtain ⟨c0, c1, c2, f0, f1, f2⟩ := hbx
      rw [hva, hvc]
      refine wpOp_shut rfl (fun K' hK' => ?_)
      rw [if_pos (by rfl)]
      go_simp
      exact hK'.out _ _ ⟨lb, cb, ab, upd sb 2 true, vl, vc, va, C, z, rfl, by rw [← hva, ← hvc], HS.out.store 2 ha hc HBX.out (fun i hi => (set_heap _ (by exact hi)).trans ((set_heap _ (by exact hi)).trans (set_heap _ (by exact hi)))) ((((Below.refl _ w).setCell (by dsimp only; omega) _).setCell (by dsimp only; omega) _).setCell (by dsimp only; omega) _)⟩
    -- 15
    · have ha : ab 3 = true := hall ⟨11, .data⟩ (by simp) rfl
      have hc : cb 3 = true := hall ⟨7, .data⟩ (by simp) rfl
      have hs : sb 3 = false := hi0
      clear hall hi0
      obtain ⟨hva, hzl, hbx⟩ := HS.out.a 3 ha
      have hvc := (HS.out.c 3 hc).1
      unfold BoxIs at hbx
      rw [hs] at hbx
      have HBX := Lib.hid (V3.three hbx (.slice (C 3).bA r.n (C 3).bc) (.slice (C 3).dA r.d (C 3).dc) (.slice (C 3).vA r.m (C 3).vc))
      obtain ⟨c0, c1, c2, f0, f1, f2⟩ := hbx
      rw [hva, hvc]
      refine wpOp_shut rfl (fun K' hK' => ?_)
      rw [if_pos (by rfl)]
      go_simp
      exact hK'.out _ _ ⟨lb, cb, ab, upd sb 3 true, vl, vc, va, C, z, rfl, by rw [← hva, ← hvc], HS.out.store 3 ha hc HBX.out (fun i hi => (set_heap _ (by exact hi)).trans ((set_heap _ (by exact hi)).trans (set_heap _ (by exact hi)))) ((((Below.refl _ w).setCell (by dsimp only; omega) _).setCell (by dsimp only; omega) _).setCell (by dsimp only; omega) _)⟩
  case fin =>
    rintro l a w ⟨lb, cb, ab, sb, vl, vc, va, C, z, rfl, rfl, hS⟩ hr
    have h0 : lb 0 = true := ready_nil (i := 0) hr rfl (by rfl)
    rw [h0] at hr
    have h1 : cb 0 = true := ready_nil (i := 1) hr rfl (by rfl)
    rw [h1] at hr
    have h2 : lb 1 = true := ready_nil (i := 2) hr rfl (by rfl)
    rw [h2] at hr
    have h3 : cb 1 = true := ready_nil (i := 3) hr rfl (by rfl)
    rw [h3] at hr
    have h4 : lb 2 = true := ready_nil (i := 4) hr rfl (by rfl)
    rw [h4] at hr
    have h5 : cb 2 = true := ready_nil (i := 5) hr rfl (by rfl)
    rw [h5] at hr
    have h6 : lb 3 = true := ready_nil (i := 6) hr rfl (by rfl)
    rw [h6] at hr
    have h7 : cb 3 = true := ready_nil (i := 7) hr rfl (by rfl)
    rw [h7] at hr
    have h8 : ab 0 = true := ready_nil (i := 8) hr rfl (by rfl)
    rw [h8] at hr
    have h9 : ab 1 = true := ready_nil (i := 9) hr rfl (by rfl)
    rw [h9] at hr
    have h10 : ab 2 = true := ready_nil (i := 10) hr rfl (by rfl)
    rw [h10] at hr
    have h11 : ab 3 = true := ready_nil (i := 11) hr rfl (by rfl)
    rw [h11] at hr
    have h12 : sb 0 = true := ready_nil (i := 12) hr rfl (by rfl)
    rw [h12] at hr
    have h13 : sb 1 = true := ready_nil (i := 13) hr rfl (by rfl)
    rw [h13] at hr
    have h14 : sb 2 = true := ready_nil (i := 14) hr rfl (by rfl)
    rw [h14] at hr
    have h15 : sb 3 = true := ready_nil (i := 15) hr rfl (by rfl)
    rw [h15] at hr
    have hca : ∀ j, j < 4 → cb j = true := fun j hj => by
      rcases (show j = 0 ∨ j = 1 ∨ j = 2 ∨ j = 3 by omega) with rfl | rfl | rfl | rfl <;> assumption
    have haa : ∀ j, j < 4 → ab j = true := fun j hj => by
      rcases (show j = 0 ∨ j = 1 ∨ j = 2 ∨ j = 3 by omega) with rfl | rfl | rfl | rfl <;> assumption
    have hsa : ∀ j, j < 4 → sb j = true := fun j hj => by
      rcases (show j = 0 ∨ j = 1 ∨ j = 2 ∨ j = 3 by omega) with rfl | rfl | rfl | rfl <;> assumption
    rw [(hS.a 0 (haa 0 (by omega))).1, (hS.a 1 (haa 1 (by omega))).1, (hS.a 2 (haa 2 (by omega))).1, (hS.a 3 (haa 3 (by omega))).1]
    refine hK C z w (Lib.hid ⟨hS.bel, fun j hj => (hS.c j (hca j hj)).2, fun i j hij hj => hS.cc i j hij (hca i (by omega)) (hca j hj), fun j hj => ⟨(hS.a j (haa j hj)).2.1, ?_⟩, fun i j hij hi hj => hS.aa i j hij (haa i hi) (haa j hj), fun i j hi hj => hS.ac i j (hca i hi) (haa j hj)⟩)
    have hb := (hS.a j (haa j hj)).2.2
    unfold BoxIs at hb
    rw [hsa j hj] at hb
    exact hb
end Go.Proofs.Ytnnikeolgknfoaa

set_option linter.unusedSimpArgs false
set_option linter.unusedVariables false
namespace Go.Proofs.Ytnnikeolgknfoaa

theorem Rw.fits_wg {r : Rw} (hr : r.ok) {X : Nat → Int} (h : r.fits X) {i : Nat} (hi : i < r.m) : (r.V i).p - (r.V i).e ≤ pre X ((r.V i).t.toNat + 1) - pre X (r.V i).f.toNat ∧ pre X ((r.V i).t.toNat + 1) - pre X (r.V i).f.toNat ≤ (r.V i).p + (r.V i).e := by
  have a := h ⟨true, i, true⟩ ⟨by show (0 : Int) ≤ (i : Int); omega, by simp only [if_true]; omega⟩
  have b := h ⟨true, i, false⟩ ⟨by show (0 : Int) ≤ (i : Int); omega, by simp only [if_true]; omega⟩
  have hv := hr.v i hi
  have h0 := hv.f
  have h1 := hv.ft
  have e : ((r.V i).t + 1).toNat = (r.V i).t.toNat + 1 := by omega
  unfold Rw.so Rw.b Rw.a Rw.to_ Rw.from_ Rw.num Rw.fa Rw.fb Rw.lo Rw.hi at a b
  simp [e] at a b
  omega
/-- what fits r' fits r -/
structure Rw.sub (r r' : Rw) : Prop where
  n : r.n = r'.n
  s : ∀ i, i < r.n → r.sp i = r'.sp i
  v : ∀ i, i < r.m → ∃ j, j < r'.m ∧ (r.V i).f = (r'.V j).f ∧ (r.V i).t = (r'.V j).t ∧ (r.V i).p - (r.V i).e ≤ (r'.V j).p - (r'.V j).e ∧ (r'.V j).p + (r'.V j).e ≤ (r.V i).p + (r.V i).e
theorem Rw.sub.fits {r r' : Rw} (h : r.sub r') (hr : r.ok) (hr' : r'.ok) {X : Nat → Int} (hX : r'.fits X) : r.fits X :=
  Rw.fits_of (fun i hi => by rw [h.s i hi]; exact Rw.fits_sp hr' hX (by rw [← h.n]; exact hi)) (fun i hi => by
    obtain ⟨j, hj, e1, e2, e3, e4⟩ := h.v i hi
    have := Rw.fits_wg hr' hX hj
    rw [e1, e2]
    omega) (fun i hi => by have := hr.v i hi; exact Int.le_trans this.f this.ft)
theorem Rw.sub.span {r r' : Rw} (h : r.sub r') (hr : r.ok) (hr' : r'.ok) (h0 : r.round = []) (h0' : r'.round = []) {a b : Nat} (ha : a ≤ b) (hb : b < r.n) : (r.span a b).a ≤ (r'.span a b).a ∧ (r'.span a b).b ≤ (r.span a b).b := by
  have hf := Rw.fin_nil hr h0
  have hf' := Rw.fin_nil hr' h0'
  have hn := h.n
  have x1 := hf.bound (h.fits hr hr' (hf'.fits_from hr' (s := a) (by omega))) (a := a) (b := b + 1) (by omega) (by omega)
  rw [pre_by, pre_by, hf'.z a (by omega)] at x1
  have x2 := hf.bound (h.fits hr hr' (hf'.fits_from hr' (s := b + 1) (by omega))) (a := b + 1) (b := a) (by omega) (by omega)
  rw [pre_by, pre_by, hf'.z (b + 1) (by omega)] at x2
  show -r.search.1.L (b + 1) a ≤ -r'.search.1.L (b + 1) a ∧ r'.search.1.L a (b + 1) ≤ r.search.1.L a (b + 1)
  omega
theorem Rw.sub.eq {r r' : Rw} (h : r.sub r') (k : r'.sub r) (hr : r.ok) (hr' : r'.ok) (h0 : r.round = []) (h0' : r'.round = []) {a b : Nat} (ha : a ≤ b) (hb : b < r.n) : r'.span a b = r.span a b := by
  have x := h.span hr hr' h0 h0' ha hb
  have y := k.span hr' hr h0' h0 ha (by rw [← h.n]; exact hb)
  obtain ⟨⟨p, q⟩, e⟩ : ∃ z, z = r.span a b := ⟨_, rfl⟩
  obtain ⟨⟨p', q'⟩, e'⟩ : ∃ z, z = r'.span a b := ⟨_, rfl⟩
  rw [← e, ← e'] at x y ⊢
  dsimp only at x y
  have h1 : p' = p := by omega
  have h2 : q' = q := by omega
  rw [h1, h2]
theorem Rw.ask_two {r : Rw} (hr : r.ok) {a b : Nat} (hab : a ≤ b) (hb : b < r.n) : (r.round = [] ∧ r.askErr a b = 0) ∨ r.askErr a b = 7 := by
  by_cases h : r.round = []
  · exact .inl ⟨h, Rw.ask_zero hr h hab hb⟩
  · right
    unfold Rw.askErr
    rw [if_neg (by rw [Rw.check_ok.2 hr]; decide)]
    have e : r.binsErr a b = 0 := by
      unfold Rw.binsErr
      rw [if_neg (by simp only [inB]; simp; omega), if_neg (by omega)]
    rw [if_neg (by rw [e]; decide), if_neg (by intro h2; exact h (List.length_eq_zero_iff.1 h2))]
/-- one weighing more -/
def Rw.more (r : Rw) (x : Wg) : Rw := { r with m := r.m + 1, V := fun j => if j = r.m then x else r.V j }
theorem Rw.more_ok {r : Rw} (hr : r.ok) (hm : r.m < 10) {x : Wg} (hx : x.ok r.n) : (r.more x).ok :=
  ⟨hr.n1, hr.n6, hr.d7, by show r.m + 1 ≤ 10; omega, hr.b, fun k hk => by
    show (if k = r.m then x else r.V k).ok r.n
    by_cases e : k = r.m
    · rw [if_pos e]; exact hx
    · rw [if_neg e]; exact hr.v k (by have : k < r.m + 1 := hk; omega), hr.k⟩
theorem Rw.sub_more (r : Rw) (x : Wg) : r.sub (r.more x) :=
  ⟨rfl, fun _ _ => rfl, fun i hi => ⟨i, by show i < r.m + 1; omega, by
    have e : (r.more x).V i = r.V i := by show (if i = r.m then x else r.V i) = r.V i; rw [if_neg (by omega)]
    rw [e]
    exact ⟨rfl, rfl, Int.le_refl _, Int.le_refl _⟩⟩⟩
theorem Rw.twice_sub (r : Rw) {j : Nat} (hj : j < r.m) : (r.more (r.V j)).sub r :=
  ⟨rfl, fun _ _ => rfl, fun i hi => by
    by_cases e : i = r.m
    · exact ⟨j, hj, by
        have e : (r.more (r.V j)).V i = r.V j := by show (if i = r.m then r.V j else r.V i) = r.V j; rw [if_pos e]
        rw [e]
        exact ⟨rfl, rfl, Int.le_refl _, Int.le_refl _⟩⟩
    · exact ⟨i, by have : i < r.m + 1 := hi; omega, by
        have e : (r.more (r.V j)).V i = r.V i := by show (if i = r.m then r.V j else r.V i) = r.V i; rw [if_neg e]
        rw [e]
        exact ⟨rfl, rfl, Int.le_refl _, Int.le_refl _⟩⟩⟩
/-- other weighings, as many -/
def Rw.wgs (r : Rw) (V : Nat → Wg) : Rw := { r with V := V }
theorem nat_surj : ∀ (k : Nat) (f : Nat → Nat), (∀ i, i < k → f i < k) → (∀ i j, i < k → j < k → f i = f j → i = j) → ∀ i, i < k → ∃ j, j < k ∧ f j = i
  | 0, _, _, _, i, hi => absurd hi (by omega)
  | k + 1, f, hb, hj, i, hi => by
    by_cases hk : f k = k
    · by_cases e : i = k
      · exact ⟨k, by omega, by rw [hk, e]⟩
      · obtain ⟨j, h1, h2⟩ := nat_surj k f (fun t ht => by
          have a := hb t (by omega)
          by_cases e2 : f t = k
          · have := hj t k (by omega) (by omega) (by rw [e2, hk])
            omega
          · omega) (fun s t hs ht => hj s t (by omega) (by omega)) i (by omega)
        exact ⟨j, by omega, h2⟩
    · have hc := hb k (by omega)
      have key : ∀ v, v < k → ∃ j, j < k ∧ (if f j = k then f k else f j) = v := fun v hv => nat_surj k (fun t => if f t = k then f k else f t) (fun t ht => by
          (try dsimp only)
          have a := hb t (by omega)
          split <;> omega) (fun s t hs ht e => by
          (try dsimp only at e)
          have a1 := hj s t (by omega) (by omega)
          have a2 := hj s k (by omega) (by omega)
          have a3 := hj t k (by omega) (by omega)
          split at e <;> split at e
          · apply a1; omega
          · exact absurd (a3 (by omega)) (by omega)
          · exact absurd (a2 (by omega)) (by omega)
          · exact a1 e) v hv
      by_cases e : i = k
      · obtain ⟨j, h1, h2⟩ := key (f k) (by omega)
        by_cases e2 : f j = k
        · exact ⟨j, by omega, by omega⟩
        · rw [if_neg e2] at h2
          exact absurd (hj j k (by omega) (by omega) h2) (by omega)
      · by_cases e3 : i = f k
        · exact ⟨k, by omega, e3.symm⟩
        · obtain ⟨j, h1, h2⟩ := key i (by omega)
          by_cases e2 : f j = k
          · rw [if_pos e2] at h2
            exact absurd h2.symm e3
          · rw [if_neg e2] at h2
            exact ⟨j, by omega, h2⟩
theorem PermN.surj {k : Nat} {X : Nat → Int} (h : PermN k X) {i : Nat} (hi : i < k) : ∃ j, j < k ∧ (X j).toNat = i :=
  nat_surj k (fun j => (X j).toNat) (fun i hi => by have := h.1 i hi; omega) (fun i j hi hj e => h.2 i j hi hj (by have a := h.1 i hi; have b := h.1 j hj; omega)) i hi
theorem Rw.mixed_ok {r : Rw} (hr : r.ok) {X : Nat → Int} (h : PermN r.m X) : (r.wgs (fun i => r.V (X i).toNat)).ok :=
  ⟨hr.n1, hr.n6, hr.d7, hr.m10, hr.b, fun k hk => hr.v _ (by have := h.1 k hk; omega), hr.k⟩
theorem Rw.mixed_sub {r : Rw} {X : Nat → Int} (h : PermN r.m X) : (r.wgs (fun i => r.V (X i).toNat)).sub r :=
  ⟨rfl, fun _ _ => rfl, fun i hi => ⟨(X i).toNat, by have := h.1 i hi; omega, rfl, rfl, Int.le_refl _, Int.le_refl _⟩⟩
theorem Rw.sub_mixed {r : Rw} {X : Nat → Int} (h : PermN r.m X) : r.sub (r.wgs (fun i => r.V (X i).toNat)) :=
  ⟨rfl, fun _ _ => rfl, fun i hi => by
    obtain ⟨j, hj, e⟩ := h.surj hi
    exact ⟨j, hj, by show (r.V i).f = (r.V (X j).toNat).f ∧ (r.V i).t = (r.V (X j).toNat).t ∧ (r.V i).p - (r.V i).e ≤ (r.V (X j).toNat).p - (r.V (X j).toNat).e ∧ (r.V (X j).toNat).p + (r.V (X j).toNat).e ≤ (r.V i).p + (r.V i).e; rw [e]; exact ⟨rfl, rfl, Int.le_refl _, Int.le_refl _⟩⟩⟩
/-- a greater error -/
def loosV (V : Nat → Wg) (j : Nat) (x : Int) : Nat → Wg := fun i => if i = j then ⟨(V j).f, (V j).t, (V j).p, (V j).e + x⟩ else V i
theorem Rw.loose_ok {r : Rw} (hr : r.ok) {j : Nat} (hj : j < r.m) {x : Int} (hx : 0 ≤ x) (h : (r.V j).e + x ≤ 100) : (r.wgs (loosV r.V j x)).ok :=
  ⟨hr.n1, hr.n6, hr.d7, hr.m10, hr.b, fun k hk => by
    have a := hr.v j hj
    have b := a.e
    show (if k = j then (⟨(r.V j).f, (r.V j).t, (r.V j).p, (r.V j).e + x⟩ : Wg) else r.V k).ok r.n
    by_cases e : k = j
    · rw [if_pos e]
      exact ⟨a.p, by show 0 ≤ (r.V j).e + x ∧ (r.V j).e + x ≤ 100; omega, a.f, a.ft, a.t⟩
    · rw [if_neg e]; exact hr.v k hk, hr.k⟩
theorem Rw.loose_sub (r : Rw) {j : Nat} {x : Int} (hx : 0 ≤ x) : (r.wgs (loosV r.V j x)).sub r :=
  ⟨rfl, fun _ _ => rfl, fun i hi => ⟨i, hi, by
    show (if i = j then (⟨(r.V j).f, (r.V j).t, (r.V j).p, (r.V j).e + x⟩ : Wg) else r.V i).f = (r.V i).f ∧ (if i = j then (⟨(r.V j).f, (r.V j).t, (r.V j).p, (r.V j).e + x⟩ : Wg) else r.V i).t = (r.V i).t ∧ (if i = j then (⟨(r.V j).f, (r.V j).t, (r.V j).p, (r.V j).e + x⟩ : Wg) else r.V i).p - (if i = j then (⟨(r.V j).f, (r.V j).t, (r.V j).p, (r.V j).e + x⟩ : Wg) else r.V i).e ≤ (r.V i).p - (r.V i).e ∧ (r.V i).p + (r.V i).e ≤ (if i = j then (⟨(r.V j).f, (r.V j).t, (r.V j).p, (r.V j).e + x⟩ : Wg) else r.V i).p + (if i = j then (⟨(r.V j).f, (r.V j).t, (r.V j).p, (r.V j).e + x⟩ : Wg) else r.V i).e
    by_cases e : i = j
    · subst e
      simp only [if_true, true_and]
      omega
    · simp only [if_neg e, true_and]
      omega⟩⟩
/-- a row, and the same with a weighing more, in another order, with one twice, with a greater error -/
structure MoreRw (r f m t l : Rw) : Prop where
  or : r.ok
  of : f.ok
  om : m.ok
  ot : t.ok
  ol : l.ok
  rr : r.round = []
  rm : m.round = []
  rt : t.round = []
  rl : l.round = []
  sf : r.sub f
  m1 : r.sub m
  m2 : m.sub r
  t1 : r.sub t
  t2 : t.sub r
  sl : l.sub r
theorem Rw.sub.round {r l : Rw} (h : l.sub r) (hr : r.ok) (hl : l.ok) {X : Nat → Int} (hX : r.fits X) : l.round = [] := Rw.fits_round hl (h.fits hl hr hX)
theorem Rw.sub_refl (r : Rw) : r.sub r := ⟨rfl, fun _ _ => rfl, fun i hi => ⟨i, hi, rfl, rfl, Int.le_refl _, Int.le_refl _⟩⟩
theorem MoreRw.of_made {r f m t l : Rw} {X : Nat → Int} (hX : r.fits X) (or : r.ok) (of : f.ok) (om : m.ok) (ot : t.ok) (ol : l.ok) (sf : r.sub f) (m1 : r.sub m) (m2 : m.sub r) (t1 : r.sub t) (t2 : t.sub r) (sl : l.sub r) : MoreRw r f m t l :=
  ⟨or, of, om, ot, ol, Rw.fits_round or hX, m2.round or om hX, t2.round or ot hX, sl.round or ol hX, sf, m1, m2, t1, t2, sl⟩
end Go.Proofs.Ytnnikeolgknfoaa

set_option linter.unusedSimpArgs false
set_option linter.unusedVariables false
namespace Go.Proofs.Ytnnikeolgknfoaa
open Go.RowKit Go.Shelf

/-- a row in a box -/
def RowIn (w : World) (b : Nat) (r : Rw) : Prop := ∃ (bA dA vA : Option Addr) (bc dc vc : Nat), RwAt w b r bA bc dA dc vA vc ∧ RwRow w w.heap.size r bA bc dA dc vA vc
theorem RowIn.later {w w' : World} {b : Nat} {r : Rw} (h : RowIn w b r) (hb : Below w.heap.size w w') : RowIn w' b r := by
  obtain ⟨bA, dA, vA, bc, dc, vc, h1, h2⟩ := h
  exact ⟨bA, dA, vA, bc, dc, vc, h1.later hb, h2.on hb⟩

set_option maxRecDepth 100000 in
set_option maxHeartbeats 8000000 in
theorem more_loop2 (r f mm t l : Rw) (HM : Hid (MoreRw r f mm t l)) (rx fx mx tx lx : Nat) (pA : Option Addr) (m : Nat) (P : Nat → Nat × Nat) (hm36 : m ≤ 36) (HPP : Hid (∀ q, q < m → (P q).1 ≤ (P q).2 ∧ (P q).2 < r.n)) {u0 u1 u2 u3 u4 u6 u7 u12 u13 u14 u15 u16 u17 u18 u19 u20 u21 u22 u23 u24 u25 u26 u27 u28 u29 u30 u31 u32 u33 u34 u35 u36 u37 u38 u39 u40 u41 u42 u43 u44 u45 u46 u47 u48 u49 u50 u51 u52 u53 u54 u55 u56 u57 u58 u59 u60 u61 u62 u63 u64 u65 u66 u67 u68 u69 u70 u71 u72 u73 u74 u75 u76 u77 u78 u79 u80 u81 u82 u83 u84 u85 u86 u87 u88 u89 u90 u91 u92 u93 u94 u95 u96 u97 u98 u99 u100 u101 u102 u103 u104 u105 u106 u107 u108 u109 u110 u111 u112 u116 u117 u118 u119 u120 u121 u122 u123 u124 u125 u126 u127 u128 u129 u130 u131 u132 u133 u134 u135 u136 u137 u138 u139 u140 u141 u142 u143 u144 u145 u146 u147 u148 u149 u150 u151 u152 u153 u154 u155 u156 u157 u158 u159 u160 u161 u162 u163 u164 u165 u166 u167 u168 u169 u170 u171 u172 u173 u174 u175 u176 u177 u178 u179 u180 u181 u182 u183 u184 u185 u186 u187 u188 u189 u190 u191 u192 u193 u194 u195 u196 u197 u198 u199 u200 u201 u202 u203 u204 u205 u206 u207 u208 u209 u210 u211 u212 u213 u214 u215 u216 u217 u218 u219 u220 u221 u222 u223 u224 u225 u226 u227 u228 u229 : Value} (pc : Nat) (w : World) (HPR : Hid (PrRow w w.heap.size pA m P))
    (HR : Hid (RowIn w rx r)) (HF : Hid (RowIn w fx f)) (HX : Hid (RowIn w mx mm)) (HT : Hid (RowIn w tx t)) (HL : Hid (RowIn w lx l))
    (Q : Exit → Act → World → Prop) (hK : ∀ {x4 x16 x17 x18 x19 x20 x21 x22 x23 x24 x25 x26 x115 x116 x117 x118 x119 x120 x121 x122 x123 x124 x125 x126 x127 x128 x129 x130 x131 x132 x133 x134 x135 x136 x137 x138 x139 x140 x141 x142 x143 x144 x145 x146 x147 x148 x149 x150 x151 x152 x153 x154 x155 x156 x157 x158 x159 x160 x161 x162 x163 x164 x165 x166 x167 x168 x169 x170 x171 x172 x173 x174 x175 x176 x177 x178 x179 x180 x181 x182 x183 x184 x185 x186 x187 x188 x189 x190 x191 x192 x193 x194 x195 x196 x197 x198 x199 x200 x201 x202 x203 x204 x205 x206 x207 x208 x209 x210 x211 x212 x213 x214 x215 x216 x217 x218 x219 x220 x221 x222 x223 x224 x225 x226 x227 x228 : Value} (w' : World), Hid (Below w.heap.size w w') → Q .normal ⟨(List.toArray (u0 :: u1 :: u2 :: u3 :: x4 :: (.pointer (some ⟨rx, 0, none⟩)) :: u6 :: u7 :: (.pointer (some ⟨fx, 0, none⟩)) :: (.pointer (some ⟨mx, 0, none⟩)) :: (.pointer (some ⟨tx, 0, none⟩)) :: (.pointer (some ⟨lx, 0, none⟩)) :: u12 :: u13 :: u14 :: u15 :: x16 :: x17 :: x18 :: x19 :: x20 :: x21 :: x22 :: x23 :: x24 :: x25 :: x26 :: u27 :: u28 :: u29 :: u30 :: u31 :: u32 :: u33 :: u34 :: u35 :: u36 :: u37 :: u38 :: u39 :: u40 :: u41 :: u42 :: u43 :: u44 :: u45 :: u46 :: u47 :: u48 :: u49 :: u50 :: u51 :: u52 :: u53 :: u54 :: u55 :: u56 :: u57 :: u58 :: u59 :: u60 :: u61 :: u62 :: u63 :: u64 :: u65 :: u66 :: u67 :: u68 :: u69 :: u70 :: u71 :: u72 :: u73 :: u74 :: u75 :: u76 :: u77 :: u78 :: u79 :: u80 :: u81 :: u82 :: u83 :: u84 :: u85 :: u86 :: u87 :: u88 :: u89 :: u90 :: u91 :: u92 :: u93 :: u94 :: u95 :: u96 :: u97 :: u98 :: u99 :: u100 :: u101 :: u102 :: u103 :: u104 :: u105 :: u106 :: u107 :: u108 :: u109 :: u110 :: u111 :: u112 :: (.slice pA m pc) :: (.int .i64 (m : Int)) :: x115 :: x116 :: x117 :: x118 :: x119 :: x120 :: x121 :: x122 :: x123 :: x124 :: x125 :: x126 :: x127 :: x128 :: x129 :: x130 :: x131 :: x132 :: x133 :: x134 :: x135 :: x136 :: x137 :: x138 :: x139 :: x140 :: x141 :: x142 :: x143 :: x144 :: x145 :: x146 :: x147 :: x148 :: x149 :: x150 :: x151 :: x152 :: x153 :: x154 :: x155 :: x156 :: x157 :: x158 :: x159 :: x160 :: x161 :: x162 :: x163 :: x164 :: x165 :: x166 :: x167 :: x168 :: x169 :: x170 :: x171 :: x172 :: x173 :: x174 :: x175 :: x176 :: x177 :: x178 :: x179 :: x180 :: x181 :: x182 :: x183 :: x184 :: x185 :: x186 :: x187 :: x188 :: x189 :: x190 :: x191 :: x192 :: x193 :: x194 :: x195 :: x196 :: x197 :: x198 :: x199 :: x200 :: x201 :: x202 :: x203 :: x204 :: x205 :: x206 :: x207 :: x208 :: x209 :: x210 :: x211 :: x212 :: x213 :: x214 :: x215 :: x216 :: x217 :: x218 :: x219 :: x220 :: x221 :: x222 :: x223 :: x224 :: x225 :: x226 :: x227 :: x228 :: u229 :: [])), []⟩ w') :
    Code.wp Try.prog (blkIn Try.f3 2) Q ⟨(List.toArray (u0 :: u1 :: u2 :: u3 :: u4 :: (.pointer (some ⟨rx, 0, none⟩)) :: u6 :: u7 :: (.pointer (some ⟨fx, 0, none⟩)) :: (.pointer (some ⟨mx, 0, none⟩)) :: (.pointer (some ⟨tx, 0, none⟩)) :: (.pointer (some ⟨lx, 0, none⟩)) :: u12 :: u13 :: u14 :: u15 :: u16 :: u17 :: u18 :: u19 :: u20 :: u21 :: u22 :: u23 :: u24 :: u25 :: u26 :: u27 :: u28 :: u29 :: u30 :: u31 :: u32 :: u33 :: u34 :: u35 :: u36 :: u37 :: u38 :: u39 :: u40 :: u41 :: u42 :: u43 :: u44 :: u45 :: u46 :: u47 :: u48 :: u49 :: u50 :: u51 :: u52 :: u53 :: u54 :: u55 :: u56 :: u57 :: u58 :: u59 :: u60 :: u61 :: u62 :: u63 :: u64 :: u65 :: u66 :: u67 :: u68 :: u69 :: u70 :: u71 :: u72 :: u73 :: u74 :: u75 :: u76 :: u77 :: u78 :: u79 :: u80 :: u81 :: u82 :: u83 :: u84 :: u85 :: u86 :: u87 :: u88 :: u89 :: u90 :: u91 :: u92 :: u93 :: u94 :: u95 :: u96 :: u97 :: u98 :: u99 :: u100 :: u101 :: u102 :: u103 :: u104 :: u105 :: u106 :: u107 :: u108 :: u109 :: u110 :: u111 :: u112 :: (.slice pA m pc) :: (.int .i64 (m : Int)) :: (.int .i64 0) :: u116 :: u117 :: u118 :: u119 :: u120 :: u121 :: u122 :: u123 :: u124 :: u125 :: u126 :: u127 :: u128 :: u129 :: u130 :: u131 :: u132 :: u133 :: u134 :: u135 :: u136 :: u137 :: u138 :: u139 :: u140 :: u141 :: u142 :: u143 :: u144 :: u145 :: u146 :: u147 :: u148 :: u149 :: u150 :: u151 :: u152 :: u153 :: u154 :: u155 :: u156 :: u157 :: u158 :: u159 :: u160 :: u161 :: u162 :: u163 :: u164 :: u165 :: u166 :: u167 :: u168 :: u169 :: u170 :: u171 :: u172 :: u173 :: u174 :: u175 :: u176 :: u177 :: u178 :: u179 :: u180 :: u181 :: u182 :: u183 :: u184 :: u185 :: u186 :: u187 :: u188 :: u189 :: u190 :: u191 :: u192 :: u193 :: u194 :: u195 :: u196 :: u197 :: u198 :: u199 :: u200 :: u201 :: u202 :: u203 :: u204 :: u205 :: u206 :: u207 :: u208 :: u209 :: u210 :: u211 :: u212 :: u213 :: u214 :: u215 :: u216 :: u217 :: u218 :: u219 :: u220 :: u221 :: u222 :: u223 :: u224 :: u225 :: u226 :: u227 :: u228 :: u229 :: [])), []⟩ w := by
  (conv => arg 2; whnf)
  go_wp2_with fail
  go_loopw [115] (fun i wr => ∃ q : Nat, q ≤ m ∧ i = .int .i64 q ∧ Hid (Below w.heap.size w wr)) (fun i _ => m - (intOf i).toNat)
  case atStart => exact ⟨0, Nat.zero_le _, rfl, Lib.hid (Below.refl _ _)⟩
  case round =>
    obtain ⟨q, hq, rfl, HBw⟩ := hrel
    obtain ⟨wo, rfl⟩ : ∃ wo, wo = wr := ⟨_, rfl⟩
    have hsw := HBw.out.size
    by_cases hlt : q < m
    · have hq0 : (0 : Int) ≤ (q : Int) := by omega
      have hqn : (q : Int) < (m : Int) := by omega
      have eq1 : IntKind.i64.wrap ((q : Int) + 1) = (q : Int) + 1 := IntWalk.i64_in _ (by omega)
      obtain ⟨pb, hpA, hpl, p0, p1⟩ := (HPR.out.below HBw.out) q hlt
      obtain ⟨hab, hbn⟩ := HPP.out q hlt
      obtain ⟨⟨a, b⟩, hpq⟩ : ∃ x, x = P q := ⟨_, rfl⟩
      rw [← hpq] at p0 p1 hab hbn
      dsimp only at p0 p1 hab hbn
      subst hpA
      clear hpq
      have hn1 : mm.n = r.n := HM.out.m2.n
      have hn2 : t.n = r.n := HM.out.t2.n
      have hn3 : l.n = r.n := HM.out.sl.n
      have hn4 : f.n = r.n := HM.out.sf.n.symm
      have ha1 := Rw.ask_zero HM.out.or HM.out.rr hab hbn
      have ha2 := Rw.ask_zero HM.out.om HM.out.rm hab (show b < mm.n by omega)
      have ha3 := Rw.ask_zero HM.out.ot HM.out.rt hab (show b < t.n by omega)
      have ha4 := Rw.ask_zero HM.out.ol HM.out.rl hab (show b < l.n by omega)
      have e2 := HM.out.m1.eq HM.out.m2 HM.out.or HM.out.om HM.out.rr HM.out.rm hab hbn
      have e3 := HM.out.t1.eq HM.out.t2 HM.out.or HM.out.ot HM.out.rr HM.out.rt hab hbn
      have e4 := HM.out.sl.span HM.out.ol HM.out.or HM.out.rl HM.out.rr hab (show b < l.n by omega)
      have e5 : f.askErr a b = 0 ∧ (r.span a b).a ≤ (f.sumS a b).a ∧ (f.sumS a b).b ≤ (r.span a b).b ∨ f.askErr a b = 7 := by
        rcases Rw.ask_two HM.out.of hab (show b < f.n by omega) with ⟨h1, h2⟩ | h2
        · exact .inl ⟨h2, by rw [Rw.sumS_ok h2]; exact HM.out.sf.span HM.out.or HM.out.of HM.out.rr h1 hab hbn⟩
        · exact .inr h2
      obtain ⟨⟨z1, z2⟩, hz⟩ : ∃ x, x = r.span a b := ⟨_, rfl⟩
      obtain ⟨⟨l1, l2⟩, hl⟩ : ∃ x, x = l.span a b := ⟨_, rfl⟩
      obtain ⟨⟨f1, f2⟩, hf⟩ : ∃ x, x = f.sumS a b := ⟨_, rfl⟩
      obtain ⟨fe, hfe⟩ : ∃ x, x = f.askErr a b := ⟨_, rfl⟩
      rw [← hz] at e2 e3 e4 e5
      rw [← hl] at e4
      rw [← hf, ← hfe] at e5
      have v1 : r.sumS a b = ⟨z1, z2⟩ := by rw [Rw.sumS_ok ha1, ← hz]
      have v2 : mm.sumS a b = ⟨z1, z2⟩ := by rw [Rw.sumS_ok ha2, e2]
      have v3 : t.sumS a b = ⟨z1, z2⟩ := by rw [Rw.sumS_ok ha3, e3]
      have v4 : l.sumS a b = ⟨l1, l2⟩ := by rw [Rw.sumS_ok ha4, ← hl]
      have V := Lib.hid (And.intro v1 (And.intro v2 (And.intro v3 (And.intro v4 (And.intro hf.symm hfe.symm)))))
      have VA := Lib.hid (And.intro ha1 (And.intro ha2 (And.intro ha3 ha4)))
      have E := Lib.hid (And.intro e4 e5)
      clear hn1 hn2 hn3 hn4 ha1 ha2 ha3 ha4 e2 e3 e4 e5 hz hl hf hfe v1 v2 v3 v4
      go_upto_region 20 with fail
      refine wp_world (fun w' => N2c w' wo.heap.size a b ∧ Below wo.heap.size wo w' ∧ wo.heap.size + 1 ≤ w'.heap.size) ⟨⟨(by (repeat' refine And.intro ?_ ?_) <;> (repeat (first | (with_reducible assumption) | (simp; done) | (with_reducible refine cell_drew_of ?_) | (with_reducible refine cell_drewN_of ?_) | (with_reducible refine cell_below_of (by with_reducible assumption) ?_) | ((with_reducible refine cell_new_of ?_ ?_) <;> (first | (with_reducible rfl) | (simp; done))) | ((with_reducible refine fro_new_of ?_) <;> (first | (with_reducible rfl) | (simp; done))) | (with_reducible refine cell_alloc_of _ ?_) | (with_reducible refine cell_set_of _ (by (first | exact Nat.le_refl _ | omega | (simp; done) | (simp; omega))) ?_) | (with_reducible refine fro_drew_of ?_) | (with_reducible refine fro_drewN_of ?_) | (with_reducible refine fro_below_of (by with_reducible assumption) (by (first | exact Nat.le_refl _ | omega | (simp; done) | (simp; omega))) ?_) | (with_reducible refine fro_alloc_of _ (by (first | exact Nat.le_refl _ | omega | (simp; done) | (simp; omega))) ?_) | (with_reducible refine fro_set_of _ ?_)))), (by (repeat' refine And.intro ?_ ?_) <;> (repeat (first | (with_reducible assumption) | (simp; done) | (with_reducible refine cell_drew_of ?_) | (with_reducible refine cell_drewN_of ?_) | (with_reducible refine cell_below_of (by with_reducible assumption) ?_) | ((with_reducible refine cell_new_of ?_ ?_) <;> (first | (with_reducible rfl) | (simp; done))) | ((with_reducible refine fro_new_of ?_) <;> (first | (with_reducible rfl) | (simp; done))) | (with_reducible refine cell_alloc_of _ ?_) | (with_reducible refine cell_set_of _ (by (first | exact Nat.le_refl _ | omega | (simp; done) | (simp; omega))) ?_) | (with_reducible refine fro_drew_of ?_) | (with_reducible refine fro_drewN_of ?_) | (with_reducible refine fro_below_of (by with_reducible assumption) (by (first | exact Nat.le_refl _ | omega | (simp; done) | (simp; omega))) ?_) | (with_reducible refine fro_alloc_of _ (by (first | exact Nat.le_refl _ | omega | (simp; done) | (simp; omega))) ?_) | (with_reducible refine fro_set_of _ ?_))))⟩, (by repeat (first | (with_reducible exact Below.refl _ _) | (with_reducible assumption) | (with_reducible refine Below.drew ?_) | ((with_reducible refine below_alloc ?_ ?_ _); (· (first | exact Nat.le_refl _ | omega | (dsimp only; omega) | (simp only [World.size_alloc, World.size_drew, World.heap_drewN]; omega) | (simp; omega)))) | ((with_reducible refine below_set ?_ ?_ _); (· (first | exact Nat.le_refl _ | omega | (dsimp only; omega) | (simp only [World.size_alloc, World.size_drew, World.heap_drewN]; omega) | (simp; omega)))) | ((with_reducible refine below_via (by with_reducible assumption) ?_ ?_); (· (first | exact Nat.le_refl _ | omega | (dsimp only; omega) | (simp only [World.size_alloc, World.size_drew, World.heap_drewN]; omega) | (simp; omega)))))), by simp⟩ ?_
      rintro wp0 ⟨hp9, hb9, hs9⟩
      have HB0 := Lib.hid (HBw.out.trans (hb9.mono hsw))
      have hsw0 := HB0.out.size
      obtain ⟨px, hpx⟩ : ∃ x, x = wo.heap.size := ⟨_, rfl⟩
      rw [← hpx] at hp9
      rw [← hpx]
      have HP0 := Lib.hid hp9
      clear hp9 hb9 hs9 p0 p1 hpx
      obtain ⟨bA, dA, vA, bc, dc, vc, ⟨c0, c1, c2⟩, hr⟩ := HR.out.later HB0.out
      obtain ⟨q0, q1⟩ := HP0.out
      go_wp2_with fail
      refine (Sum_any r (a : Int) (b : Int) bA dA vA bc dc vc _ hr).mono ?_
      rintro e ws0 ⟨rfl, hbs⟩
      rw [V.out.1, VA.out.1]
      have HBs0 := Lib.hid (HB0.out.trans (hbs.mono hsw0))
      have hsz0 := HBs0.out.size
      (try dsimp only)
      clear c0 c1 c2 q0 q1 hr
      go_upto_region 21 with fail
      refine wp_world (fun w' => N2c w' ws0.heap.size z1 z2 ∧ Below ws0.heap.size ws0 w' ∧ ws0.heap.size + 1 ≤ w'.heap.size) ⟨⟨(by (repeat' refine And.intro ?_ ?_) <;> (repeat (first | (with_reducible assumption) | (simp; done) | (with_reducible refine cell_drew_of ?_) | (with_reducible refine cell_drewN_of ?_) | (with_reducible refine cell_below_of (by with_reducible assumption) ?_) | ((with_reducible refine cell_new_of ?_ ?_) <;> (first | (with_reducible rfl) | (simp; done))) | ((with_reducible refine fro_new_of ?_) <;> (first | (with_reducible rfl) | (simp; done))) | (with_reducible refine cell_alloc_of _ ?_) | (with_reducible refine cell_set_of _ (by (first | exact Nat.le_refl _ | omega | (simp; done) | (simp; omega))) ?_) | (with_reducible refine fro_drew_of ?_) | (with_reducible refine fro_drewN_of ?_) | (with_reducible refine fro_below_of (by with_reducible assumption) (by (first | exact Nat.le_refl _ | omega | (simp; done) | (simp; omega))) ?_) | (with_reducible refine fro_alloc_of _ (by (first | exact Nat.le_refl _ | omega | (simp; done) | (simp; omega))) ?_) | (with_reducible refine fro_set_of _ ?_)))), (by (repeat' refine And.intro ?_ ?_) <;> (repeat (first | (with_reducible assumption) | (simp; done) | (with_reducible refine cell_drew_of ?_) | (with_reducible refine cell_drewN_of ?_) | (with_reducible refine cell_below_of (by with_reducible assumption) ?_) | ((with_reducible refine cell_new_of ?_ ?_) <;> (first | (with_reducible rfl) | (simp; done))) | ((with_reducible refine fro_new_of ?_) <;> (first | (with_reducible rfl) | (simp; done))) | (with_reducible refine cell_alloc_of _ ?_) | (with_reducible refine cell_set_of _ (by (first | exact Nat.le_refl _ | omega | (simp; done) | (simp; omega))) ?_) | (with_reducible refine fro_drew_of ?_) | (with_reducible refine fro_drewN_of ?_) | (with_reducible refine fro_below_of (by with_reducible assumption) (by (first | exact Nat.le_refl _ | omega | (simp; done) | (simp; omega))) ?_) | (with_reducible refine fro_alloc_of _ (by (first | exact Nat.le_refl _ | omega | (simp; done) | (simp; omega))) ?_) | (with_reducible refine fro_set_of _ ?_))))⟩, (by repeat (first | (with_reducible exact Below.refl _ _) | (with_reducible assumption) | (with_reducible refine Below.drew ?_) | ((with_reducible refine below_alloc ?_ ?_ _); (· (first | exact Nat.le_refl _ | omega | (dsimp only; omega) | (simp only [World.size_alloc, World.size_drew, World.heap_drewN]; omega) | (simp; omega)))) | ((with_reducible refine below_set ?_ ?_ _); (· (first | exact Nat.le_refl _ | omega | (dsimp only; omega) | (simp only [World.size_alloc, World.size_drew, World.heap_drewN]; omega) | (simp; omega)))) | ((with_reducible refine below_via (by with_reducible assumption) ?_ ?_); (· (first | exact Nat.le_refl _ | omega | (dsimp only; omega) | (simp only [World.size_alloc, World.size_drew, World.heap_drewN]; omega) | (simp; omega)))))), by simp⟩ ?_
      rintro wp1 ⟨hw, hb', hs'⟩
      have HP1 := Lib.hid ((HP0.out.later hbs).later hb')
      have HB1 := Lib.hid (HBs0.out.trans (hb'.mono hsz0))
      have hsw1 := HB1.out.size
      obtain ⟨ax0, hax⟩ : ∃ x, x = ws0.heap.size := ⟨_, rfl⟩
      rw [← hax] at hw
      rw [← hax]
      have HN0_1 := Lib.hid hw
      clear hw hb' hs' hax hbs HP0 HB0 HBs0 hsw0 hsz0
      obtain ⟨bA, dA, vA, bc, dc, vc, ⟨c0, c1, c2⟩, hr⟩ := HF.out.later HB1.out
      obtain ⟨q0, q1⟩ := HP1.out
      go_wp2_with fail
      refine (Sum_any f (a : Int) (b : Int) bA dA vA bc dc vc _ hr).mono ?_
      rintro e ws1 ⟨rfl, hbs⟩
      rw [V.out.2.2.2.2.1, V.out.2.2.2.2.2]
      have HBs1 := Lib.hid (HB1.out.trans (hbs.mono hsw1))
      have hsz1 := HBs1.out.size
      (try dsimp only)
      clear c0 c1 c2 q0 q1 hr
      go_upto_region 22 with fail
      refine wp_world (fun w' => N2c w' ws1.heap.size f1 f2 ∧ Below ws1.heap.size ws1 w' ∧ ws1.heap.size + 1 ≤ w'.heap.size) ⟨⟨(by (repeat' refine And.intro ?_ ?_) <;> (repeat (first | (with_reducible assumption) | (simp; done) | (with_reducible refine cell_drew_of ?_) | (with_reducible refine cell_drewN_of ?_) | (with_reducible refine cell_below_of (by with_reducible assumption) ?_) | ((with_reducible refine cell_new_of ?_ ?_) <;> (first | (with_reducible rfl) | (simp; done))) | ((with_reducible refine fro_new_of ?_) <;> (first | (with_reducible rfl) | (simp; done))) | (with_reducible refine cell_alloc_of _ ?_) | (with_reducible refine cell_set_of _ (by (first | exact Nat.le_refl _ | omega | (simp; done) | (simp; omega))) ?_) | (with_reducible refine fro_drew_of ?_) | (with_reducible refine fro_drewN_of ?_) | (with_reducible refine fro_below_of (by with_reducible assumption) (by (first | exact Nat.le_refl _ | omega | (simp; done) | (simp; omega))) ?_) | (with_reducible refine fro_alloc_of _ (by (first | exact Nat.le_refl _ | omega | (simp; done) | (simp; omega))) ?_) | (with_reducible refine fro_set_of _ ?_)))), (by (repeat' refine And.intro ?_ ?_) <;> (repeat (first | (with_reducible assumption) | (simp; done) | (with_reducible refine cell_drew_of ?_) | (with_reducible refine cell_drewN_of ?_) | (with_reducible refine cell_below_of (by with_reducible assumption) ?_) | ((with_reducible refine cell_new_of ?_ ?_) <;> (first | (with_reducible rfl) | (simp; done))) | ((with_reducible refine fro_new_of ?_) <;> (first | (with_reducible rfl) | (simp; done))) | (with_reducible refine cell_alloc_of _ ?_) | (with_reducible refine cell_set_of _ (by (first | exact Nat.le_refl _ | omega | (simp; done) | (simp; omega))) ?_) | (with_reducible refine fro_drew_of ?_) | (with_reducible refine fro_drewN_of ?_) | (with_reducible refine fro_below_of (by with_reducible assumption) (by (first | exact Nat.le_refl _ | omega | (simp; done) | (simp; omega))) ?_) | (with_reducible refine fro_alloc_of _ (by (first | exact Nat.le_refl _ | omega | (simp; done) | (simp; omega))) ?_) | (with_reducible refine fro_set_of _ ?_))))⟩, (by repeat (first | (with_reducible exact Below.refl _ _) | (with_reducible assumption) | (with_reducible refine Below.drew ?_) | ((with_reducible refine below_alloc ?_ ?_ _); (· (first | exact Nat.le_refl _ | omega | (dsimp only; omega) | (simp only [World.size_alloc, World.size_drew, World.heap_drewN]; omega) | (simp; omega)))) | ((with_reducible refine below_set ?_ ?_ _); (· (first | exact Nat.le_refl _ | omega | (dsimp only; omega) | (simp only [World.size_alloc, World.size_drew, World.heap_drewN]; omega) | (simp; omega)))) | ((with_reducible refine below_via (by with_reducible assumption) ?_ ?_); (· (first | exact Nat.le_refl _ | omega | (dsimp only; omega) | (simp only [World.size_alloc, World.size_drew, World.heap_drewN]; omega) | (simp; omega)))))), by simp⟩ ?_
      rintro wp2 ⟨hw, hb', hs'⟩
      have HP2 := Lib.hid ((HP1.out.later hbs).later hb')
      have HB2 := Lib.hid (HBs1.out.trans (hb'.mono hsz1))
      have hsw2 := HB2.out.size
      obtain ⟨ax1, hax⟩ : ∃ x, x = ws1.heap.size := ⟨_, rfl⟩
      rw [← hax] at hw
      rw [← hax]
      have HN1_2 := Lib.hid hw
      have HN0_2 := Lib.hid ((HN0_1.out.later hbs).later hb')
      clear hw hb' hs' hax hbs HP1 HB1 HBs1 hsw1 hsz1
      clear HN0_1
      obtain ⟨bA, dA, vA, bc, dc, vc, ⟨c0, c1, c2⟩, hr⟩ := HX.out.later HB2.out
      obtain ⟨q0, q1⟩ := HP2.out
      go_wp2_with fail
      refine (Sum_any mm (a : Int) (b : Int) bA dA vA bc dc vc _ hr).mono ?_
      rintro e ws2 ⟨rfl, hbs⟩
      rw [V.out.2.1, VA.out.2.1]
      have HBs2 := Lib.hid (HB2.out.trans (hbs.mono hsw2))
      have hsz2 := HBs2.out.size
      (try dsimp only)
      clear c0 c1 c2 q0 q1 hr
      go_upto_region 23 with fail
      refine wp_world (fun w' => N2c w' ws2.heap.size z1 z2 ∧ Below ws2.heap.size ws2 w' ∧ ws2.heap.size + 1 ≤ w'.heap.size) ⟨⟨(by (repeat' refine And.intro ?_ ?_) <;> (repeat (first | (with_reducible assumption) | (simp; done) | (with_reducible refine cell_drew_of ?_) | (with_reducible refine cell_drewN_of ?_) | (with_reducible refine cell_below_of (by with_reducible assumption) ?_) | ((with_reducible refine cell_new_of ?_ ?_) <;> (first | (with_reducible rfl) | (simp; done))) | ((with_reducible refine fro_new_of ?_) <;> (first | (with_reducible rfl) | (simp; done))) | (with_reducible refine cell_alloc_of _ ?_) | (with_reducible refine cell_set_of _ (by (first | exact Nat.le_refl _ | omega | (simp; done) | (simp; omega))) ?_) | (with_reducible refine fro_drew_of ?_) | (with_reducible refine fro_drewN_of ?_) | (with_reducible refine fro_below_of (by with_reducible assumption) (by (first | exact Nat.le_refl _ | omega | (simp; done) | (simp; omega))) ?_) | (with_reducible refine fro_alloc_of _ (by (first | exact Nat.le_refl _ | omega | (simp; done) | (simp; omega))) ?_) | (with_reducible refine fro_set_of _ ?_)))), (by (repeat' refine And.intro ?_ ?_) <;> (repeat (first | (with_reducible assumption) | (simp; done) | (with_reducible refine cell_drew_of ?_) | (with_reducible refine cell_drewN_of ?_) | (with_reducible refine cell_below_of (by with_reducible assumption) ?_) | ((with_reducible refine cell_new_of ?_ ?_) <;> (first | (with_reducible rfl) | (simp; done))) | ((with_reducible refine fro_new_of ?_) <;> (first | (with_reducible rfl) | (simp; done))) | (with_reducible refine cell_alloc_of _ ?_) | (with_reducible refine cell_set_of _ (by (first | exact Nat.le_refl _ | omega | (simp; done) | (simp; omega))) ?_) | (with_reducible refine fro_drew_of ?_) | (with_reducible refine fro_drewN_of ?_) | (with_reducible refine fro_below_of (by with_reducible assumption) (by (first | exact Nat.le_refl _ | omega | (simp; done) | (simp; omega))) ?_) | (with_reducible refine fro_alloc_of _ (by (first | exact Nat.le_refl _ | omega | (simp; done) | (simp; omega))) ?_) | (with_reducible refine fro_set_of _ ?_))))⟩, (by repeat (first | (with_reducible exact Below.refl _ _) | (with_reducible assumption) | (with_reducible refine Below.drew ?_) | ((with_reducible refine below_alloc ?_ ?_ _); (· (first | exact Nat.le_refl _ | omega | (dsimp only; omega) | (simp only [World.size_alloc, World.size_drew, World.heap_drewN]; omega) | (simp; omega)))) | ((with_reducible refine below_set ?_ ?_ _); (· (first | exact Nat.le_refl _ | omega | (dsimp only; omega) | (simp only [World.size_alloc, World.size_drew, World.heap_drewN]; omega) | (simp; omega)))) | ((with_reducible refine below_via (by with_reducible assumption) ?_ ?_); (· (first | exact Nat.le_refl _ | omega | (dsimp only; omega) | (simp only [World.size_alloc, World.size_drew, World.heap_drewN]; omega) | (simp; omega)))))), by simp⟩ ?_
      rintro wp3 ⟨hw, hb', hs'⟩
      have HP3 := Lib.hid ((HP2.out.later hbs).later hb')
      have HB3 := Lib.hid (HBs2.out.trans (hb'.mono hsz2))
      have hsw3 := HB3.out.size
      obtain ⟨ax2, hax⟩ : ∃ x, x = ws2.heap.size := ⟨_, rfl⟩
      rw [← hax] at hw
      rw [← hax]
      have HN2_3 := Lib.hid hw
      have HN0_3 := Lib.hid ((HN0_2.out.later hbs).later hb')
      have HN1_3 := Lib.hid ((HN1_2.out.later hbs).later hb')
      clear hw hb' hs' hax hbs HP2 HB2 HBs2 hsw2 hsz2
      clear HN0_2 HN1_2
      obtain ⟨bA, dA, vA, bc, dc, vc, ⟨c0, c1, c2⟩, hr⟩ := HT.out.later HB3.out
      obtain ⟨q0, q1⟩ := HP3.out
      go_wp2_with fail
      refine (Sum_any t (a : Int) (b : Int) bA dA vA bc dc vc _ hr).mono ?_
      rintro e ws3 ⟨rfl, hbs⟩
      rw [V.out.2.2.1, VA.out.2.2.1]
      have HBs3 := Lib.hid (HB3.out.trans (hbs.mono hsw3))
      have hsz3 := HBs3.out.size
      (try dsimp only)
      clear c0 c1 c2 q0 q1 hr
      go_upto_region 24 with fail
      refine wp_world (fun w' => N2c w' ws3.heap.size z1 z2 ∧ Below ws3.heap.size ws3 w' ∧ ws3.heap.size + 1 ≤ w'.heap.size) ⟨⟨(by (repeat' refine And.intro ?_ ?_) <;> (repeat (first | (with_reducible assumption) | (simp; done) | (with_reducible refine cell_drew_of ?_) | (with_reducible refine cell_drewN_of ?_) | (with_reducible refine cell_below_of (by with_reducible assumption) ?_) | ((with_reducible refine cell_new_of ?_ ?_) <;> (first | (with_reducible rfl) | (simp; done))) | ((with_reducible refine fro_new_of ?_) <;> (first | (with_reducible rfl) | (simp; done))) | (with_reducible refine cell_alloc_of _ ?_) | (with_reducible refine cell_set_of _ (by (first | exact Nat.le_refl _ | omega | (simp; done) | (simp; omega))) ?_) | (with_reducible refine fro_drew_of ?_) | (with_reducible refine fro_drewN_of ?_) | (with_reducible refine fro_below_of (by with_reducible assumption) (by (first | exact Nat.le_refl _ | omega | (simp; done) | (simp; omega))) ?_) | (with_reducible refine fro_alloc_of _ (by (first | exact Nat.le_refl _ | omega | (simp; done) | (simp; omega))) ?_) | (with_reducible refine fro_set_of _ ?_)))), (by (repeat' refine And.intro ?_ ?_) <;> (repeat (first | (with_reducible assumption) | (simp; done) | (with_reducible refine cell_drew_of ?_) | (with_reducible refine cell_drewN_of ?_) | (with_reducible refine cell_below_of (by with_reducible assumption) ?_) | ((with_reducible refine cell_new_of ?_ ?_) <;> (first | (with_reducible rfl) | (simp; done))) | ((with_reducible refine fro_new_of ?_) <;> (first | (with_reducible rfl) | (simp; done))) | (with_reducible refine cell_alloc_of _ ?_) | (with_reducible refine cell_set_of _ (by (first | exact Nat.le_refl _ | omega | (simp; done) | (simp; omega))) ?_) | (with_reducible refine fro_drew_of ?_) | (with_reducible refine fro_drewN_of ?_) | (with_reducible refine fro_below_of (by with_reducible assumption) (by (first | exact Nat.le_refl _ | omega | (simp; done) | (simp; omega))) ?_) | (with_reducible refine fro_alloc_of _ (by (first | exact Nat.le_refl _ | omega | (simp; done) | (simp; omega))) ?_) | (with_reducible refine fro_set_of _ ?_))))⟩, (by repeat (first | (with_reducible exact Below.refl _ _) | (with_reducible assumption) | (with_reducible refine Below.drew ?_) | ((with_reducible refine below_alloc ?_ ?_ _); (· (first | exact Nat.le_refl _ | omega | (dsimp only; omega) | (simp only [World.size_alloc, World.size_drew, World.heap_drewN]; omega) | (simp; omega)))) | ((with_reducible refine below_set ?_ ?_ _); (· (first | exact Nat.le_refl _ | omega | (dsimp only; omega) | (simp only [World.size_alloc, World.size_drew, World.heap_drewN]; omega) | (simp; omega)))) | ((with_reducible refine below_via (by with_reducible assumption) ?_ ?_); (· (first | exact Nat.le_refl _ | omega | (dsimp only; omega) | (simp only [World.size_alloc, World.size_drew, World.heap_drewN]; omega) | (simp; omega)))))), by simp⟩ ?_
      rintro wp4 ⟨hw, hb', hs'⟩
      have HP4 := Lib.hid ((HP3.out.later hbs).later hb')
      have HB4 := Lib.hid (HBs3.out.trans (hb'.mono hsz3))
      have hsw4 := HB4.out.size
      obtain ⟨ax3, hax⟩ : ∃ x, x = ws3.heap.size := ⟨_, rfl⟩
      rw [← hax] at hw
      rw [← hax]
      have HN3_4 := Lib.hid hw
      have HN0_4 := Lib.hid ((HN0_3.out.later hbs).later hb')
      have HN1_4 := Lib.hid ((HN1_3.out.later hbs).later hb')
      have HN2_4 := Lib.hid ((HN2_3.out.later hbs).later hb')
      clear hw hb' hs' hax hbs HP3 HB3 HBs3 hsw3 hsz3
      clear HN0_3 HN1_3 HN2_3
      obtain ⟨bA, dA, vA, bc, dc, vc, ⟨c0, c1, c2⟩, hr⟩ := HL.out.later HB4.out
      obtain ⟨q0, q1⟩ := HP4.out
      go_wp2_with fail
      refine (Sum_any l (a : Int) (b : Int) bA dA vA bc dc vc _ hr).mono ?_
      rintro e ws4 ⟨rfl, hbs⟩
      rw [V.out.2.2.2.1, VA.out.2.2.2]
      have HBs4 := Lib.hid (HB4.out.trans (hbs.mono hsw4))
      have hsz4 := HBs4.out.size
      (try dsimp only)
      clear c0 c1 c2 q0 q1 hr
      go_upto_region 25 with fail
      refine wp_world (fun w' => N2c w' ws4.heap.size l1 l2 ∧ Below ws4.heap.size ws4 w' ∧ ws4.heap.size + 1 ≤ w'.heap.size) ⟨⟨(by (repeat' refine And.intro ?_ ?_) <;> (repeat (first | (with_reducible assumption) | (simp; done) | (with_reducible refine cell_drew_of ?_) | (with_reducible refine cell_drewN_of ?_) | (with_reducible refine cell_below_of (by with_reducible assumption) ?_) | ((with_reducible refine cell_new_of ?_ ?_) <;> (first | (with_reducible rfl) | (simp; done))) | ((with_reducible refine fro_new_of ?_) <;> (first | (with_reducible rfl) | (simp; done))) | (with_reducible refine cell_alloc_of _ ?_) | (with_reducible refine cell_set_of _ (by (first | exact Nat.le_refl _ | omega | (simp; done) | (simp; omega))) ?_) | (with_reducible refine fro_drew_of ?_) | (with_reducible refine fro_drewN_of ?_) | (with_reducible refine fro_below_of (by with_reducible assumption) (by (first | exact Nat.le_refl _ | omega | (simp; done) | (simp; omega))) ?_) | (with_reducible refine fro_alloc_of _ (by (first | exact Nat.le_refl _ | omega | (simp; done) | (simp; omega))) ?_) | (with_reducible refine fro_set_of _ ?_)))), (by (repeat' refine And.intro ?_ ?_) <;> (repeat (first | (with_reducible assumption) | (simp; done) | (with_reducible refine cell_drew_of ?_) | (with_reducible refine cell_drewN_of ?_) | (with_reducible refine cell_below_of (by with_reducible assumption) ?_) | ((with_reducible refine cell_new_of ?_ ?_) <;> (first | (with_reducible rfl) | (simp; done))) | ((with_reducible refine fro_new_of ?_) <;> (first | (with_reducible rfl) | (simp; done))) | (with_reducible refine cell_alloc_of _ ?_) | (with_reducible refine cell_set_of _ (by (first | exact Nat.le_refl _ | omega | (simp; done) | (simp; omega))) ?_) | (with_reducible refine fro_drew_of ?_) | (with_reducible refine fro_drewN_of ?_) | (with_reducible refine fro_below_of (by with_reducible assumption) (by (first | exact Nat.le_refl _ | omega | (simp; done) | (simp; omega))) ?_) | (with_reducible refine fro_alloc_of _ (by (first | exact Nat.le_refl _ | omega | (simp; done) | (simp; omega))) ?_) | (with_reducible refine fro_set_of _ ?_))))⟩, (by repeat (first | (with_reducible exact Below.refl _ _) | (with_reducible assumption) | (with_reducible refine Below.drew ?_) | ((with_reducible refine below_alloc ?_ ?_ _); (· (first | exact Nat.le_refl _ | omega | (dsimp only; omega) | (simp only [World.size_alloc, World.size_drew, World.heap_drewN]; omega) | (simp; omega)))) | ((with_reducible refine below_set ?_ ?_ _); (· (first | exact Nat.le_refl _ | omega | (dsimp only; omega) | (simp only [World.size_alloc, World.size_drew, World.heap_drewN]; omega) | (simp; omega)))) | ((with_reducible refine below_via (by with_reducible assumption) ?_ ?_); (· (first | exact Nat.le_refl _ | omega | (dsimp only; omega) | (simp only [World.size_alloc, World.size_drew, World.heap_drewN]; omega) | (simp; omega)))))), by simp⟩ ?_
      rintro wp5 ⟨hw, hb', hs'⟩
      have HP5 := Lib.hid ((HP4.out.later hbs).later hb')
      have HB5 := Lib.hid (HBs4.out.trans (hb'.mono hsz4))
      have hsw5 := HB5.out.size
      obtain ⟨ax4, hax⟩ : ∃ x, x = ws4.heap.size := ⟨_, rfl⟩
      rw [← hax] at hw
      rw [← hax]
      have HN4_5 := Lib.hid hw
      have HN0_5 := Lib.hid ((HN0_4.out.later hbs).later hb')
      have HN1_5 := Lib.hid ((HN1_4.out.later hbs).later hb')
      have HN2_5 := Lib.hid ((HN2_4.out.later hbs).later hb')
      have HN3_5 := Lib.hid ((HN3_4.out.later hbs).later hb')
      clear hw hb' hs' hax hbs HP4 HB4 HBs4 hsw4 hsz4
      clear HN0_4 HN1_4 HN2_4 HN3_4
      obtain ⟨q0, q1⟩ := HN0_5.out
      obtain ⟨q2, q3⟩ := HN1_5.out
      obtain ⟨q4, q5⟩ := HN2_5.out
      obtain ⟨q6, q7⟩ := HN3_5.out
      obtain ⟨q8, q9⟩ := HN4_5.out
      obtain ⟨e4, e5⟩ := E.out
      (try dsimp only at e4 e5)
      have h1 : ¬ z1 < l1 := by omega
      have h2 : ¬ l2 < z2 := by omega
      rcases e5 with ⟨rfl, h3, h4⟩ | rfl
      · have h5 : ¬ f1 < z1 := by omega
        have h6 : ¬ z2 < f2 := by omega
        clear h3 h4 e4
        go_wp2_with fail
        go_roundw
        case rel => exact ⟨q + 1, by omega, by go_num, HB5⟩
        case measure => simp [intOf]; omega
      · clear e4
        go_wp2_with fail
        go_roundw
        case rel => exact ⟨q + 1, by omega, by go_num, HB5⟩
        case measure => simp [intOf]; omega
    · obtain rfl : q = m := by omega
      have hge : ¬ (q : Int) < (q : Int) := by omega
      go_wp2_with fail
      all_goals exact HBw
end Go.Proofs.Ytnnikeolgknfoaa

set_option linter.unusedSimpArgs false
set_option linter.unusedVariables false
namespace Go.Proofs.Ytnnikeolgknfoaa
open Go.RowKit Go.Shelf

/-- numbers of the blocks of four copies and their boxes -/
structure SepN (s0 E0 : Nat) (C : Nat → Cp) (z : Nat → Nat) : Prop where
  s : ∀ j, j < 4 → s0 ≤ (C j).s ∧ (C j).e ≤ E0
  zz : ∀ j, j < 4 → s0 ≤ z j ∧ z j < E0
  cc : ∀ i j, i < j → j < 4 → (C i).e ≤ (C j).s
  aa : ∀ i j, i ≠ j → i < 4 → j < 4 → z i ≠ z j
  ac : ∀ i j, i < 4 → j < 4 → z j < (C i).s ∨ (C i).e ≤ z j
theorem Four.sep {w0 w : World} {r : Rw} {C : Nat → Cp} {z : Nat → Nat} (h : Four w0 w r C z) : SepN w0.heap.size w.heap.size C z :=
  ⟨fun j hj => ⟨(h.c j hj).2, (h.c j hj).1.e⟩, fun j hj => ⟨(h.a j hj).1, (h.a j hj).2.lt⟩, h.cc, h.aa, h.ac⟩
/-- a copy in its box -/
structure CpBox (w : World) (r : Rw) (c : Cp) (z : Nat) : Prop where
  cp : CpAt w r c
  bx : V3 w z (.slice c.bA r.n c.bc) (.slice c.dA r.d c.dc) (.slice c.vA r.m c.vc)
def own (c : Cp) (z i : Nat) : Prop := i = z ∨ (c.s ≤ i ∧ i < c.e)
theorem CpBox.keep {w w' : World} {r : Rw} {c : Cp} {z : Nat} (h : CpBox w r c z) (hk : ∀ i, own c z i → w'.heap[i]? = w.heap[i]?) (hs : w.heap.size ≤ w'.heap.size) : CpBox w' r c z :=
  ⟨h.cp.keep (fun i h1 h2 => hk i (.inr ⟨h1, h2⟩)) hs, h.bx.same (hk z (.inl rfl))⟩
theorem Four.box {w0 w : World} {r : Rw} {C : Nat → Cp} {z : Nat → Nat} (h : Four w0 w r C z) {j : Nat} (hj : j < 4) : CpBox w r (C j) (z j) := ⟨(h.c j hj).1, (h.a j hj).2⟩
/-- a row in a box, and where its blocks are -/
def RowF (w : World) (z : Nat) (r : Rw) (S : Nat → Prop) : Prop :=
  ∃ (bA dA vA : Option Addr) (bc dc vc : Nat), RwAt w z r bA bc dA dc vA vc ∧ RwRow w w.heap.size r bA bc dA dc vA vc ∧ S z ∧ ∀ a, (bA = some a ∨ dA = some a ∨ vA = some a) → S a.block
theorem RowF.in {w : World} {z : Nat} {r : Rw} {S : Nat → Prop} (h : RowF w z r S) : RowIn w z r := by
  obtain ⟨bA, dA, vA, bc, dc, vc, h1, h2, -⟩ := h
  exact ⟨bA, dA, vA, bc, dc, vc, h1, h2⟩
theorem RwRow.keepS {w w' : World} {r : Rw} {bA dA vA : Option Addr} {bc dc vc B : Nat} (h : RwRow w B r bA bc dA dc vA vc) (hk : ∀ a, (bA = some a ∨ dA = some a ∨ vA = some a) → w'.heap[a.block]? = w.heap[a.block]?) {B' : Nat} (hB : B ≤ B') (hs : B' ≤ w'.heap.size) : RwRow w' B' r bA bc dA dc vA vc := by
  refine ⟨hs, fun k hk' => ?_, fun k hk' => ?_, fun k hk' => ?_, h.n1, h.d1, h.m1, h.bc, h.dc, h.vc⟩
  · obtain ⟨b, o, hA, hb, c0, c1, c2, c3, c4, c5, c6⟩ := h.b k hk'
    have hh := hk ⟨b, o, none⟩ (.inl hA)
    exact ⟨b, o, hA, by omega, cell_same hh c0, cell_same hh c1, cell_same hh c2, cell_same hh c3, cell_same hh c4, cell_same hh c5, cell_same hh c6⟩
  · obtain ⟨b, o, hA, hb, c0⟩ := h.d k hk'
    exact ⟨b, o, hA, by omega, cell_same (hk ⟨b, o, none⟩ (.inr (.inl hA))) c0⟩
  · obtain ⟨b, o, hA, hb, c0, c1, c2, c3⟩ := h.v k hk'
    have hh := hk ⟨b, o, none⟩ (.inr (.inr hA))
    exact ⟨b, o, hA, by omega, cell_same hh c0, cell_same hh c1, cell_same hh c2, cell_same hh c3⟩
theorem RowF.keep {w w' : World} {z : Nat} {r : Rw} {S : Nat → Prop} (h : RowF w z r S) (hk : ∀ i, S i → i < w.heap.size → w'.heap[i]? = w.heap[i]?) (hs : w.heap.size ≤ w'.heap.size) : RowF w' z r S := by
  obtain ⟨bA, dA, vA, bc, dc, vc, h1, h2, h3, h4⟩ := h
  refine ⟨bA, dA, vA, bc, dc, vc, h1.same (hk z h3 h1.lt), ?_, h3, h4⟩
  refine ⟨Nat.le_refl _, fun k hk' => ?_, fun k hk' => ?_, fun k hk' => ?_, h2.n1, h2.d1, h2.m1, h2.bc, h2.dc, h2.vc⟩
  · obtain ⟨b, o, hA, hb, c0, c1, c2, c3, c4, c5, c6⟩ := h2.b k hk'
    have hh := hk b (h4 _ (.inl hA)) hb
    exact ⟨b, o, hA, by omega, cell_same hh c0, cell_same hh c1, cell_same hh c2, cell_same hh c3, cell_same hh c4, cell_same hh c5, cell_same hh c6⟩
  · obtain ⟨b, o, hA, hb, c0⟩ := h2.d k hk'
    exact ⟨b, o, hA, by omega, cell_same (hk b (h4 _ (.inr (.inl hA))) hb) c0⟩
  · obtain ⟨b, o, hA, hb, c0, c1, c2, c3⟩ := h2.v k hk'
    have hh := hk b (h4 _ (.inr (.inr hA))) hb
    exact ⟨b, o, hA, by omega, cell_same hh c0, cell_same hh c1, cell_same hh c2, cell_same hh c3⟩
theorem RowF.weak {w : World} {z : Nat} {r : Rw} {S S' : Nat → Prop} (h : RowF w z r S) (hs : ∀ i, S i → S' i) : RowF w z r S' := by
  obtain ⟨bA, dA, vA, bc, dc, vc, h1, h2, h3, h4⟩ := h
  exact ⟨bA, dA, vA, bc, dc, vc, h1, h2, hs _ h3, fun a ha => hs _ (h4 a ha)⟩
/-- a box whose bins and days lie in a copy, with weighings of one's own -/
theorem rowF_of {w : World} {r f : Rw} (hf : f.ok) {c : Cp} {z : Nat} {v : Value} {base : Nat} {S : Nat → Prop} (hn : f.n = r.n) (hd : f.d = r.d) (hB : f.B = r.B) (hD : f.D = r.D) (hc : OwnBn w c.s c.bA r.n r.B ∧ OwnInt w c.s c.dA r.d r.D) (hcap : r.n ≤ c.bc ∧ r.d ≤ c.dc) (hS : ∀ i, own c z i → S i)
    (hbl : ∀ a, c.bA = some a → c.s ≤ a.block ∧ a.block < c.m ∧ a.block < c.e) (hdl : ∀ a, c.dA = some a → c.s ≤ a.block ∧ a.block < c.m ∧ a.block < c.e)
    (hbox : V3 w z (.slice c.bA r.n c.bc) (.slice c.dA r.d c.dc) v) (hv : w.ownsRow base 35 4 v f.m (rowC wgC f.V f.m)) (hSv : ∀ g, v.ownBlock = some g → S g) (hce : c.e ≤ w.heap.size) : RowF w z f (fun i => S i ∧ i < w.heap.size) := by
  have hvlt := hv.lt
  obtain ⟨vA, vc, rfl, ho, hvc⟩ := OwnWg.of hv
  refine ⟨c.bA, c.dA, vA, c.bc, c.dc, vc, ⟨by rw [hn]; exact hbox.c0, by rw [hd]; exact hbox.c1, hbox.c2⟩, ⟨Nat.le_refl _, by rw [hn, hB]; exact hc.1.row, by rw [hd, hD]; exact hc.2.row, ho.row, by have := hf.n6; omega, by have := hf.d7; omega, by have := hf.m10; omega, by omega, by omega, hvc⟩, ⟨hS z (.inl rfl), hbox.lt⟩, ?_⟩
  rintro a (h | h | h)
  · have := hbl a h
    exact ⟨hS _ (.inr ⟨this.1, this.2.2⟩), by omega⟩
  · have := hdl a h
    exact ⟨hS _ (.inr ⟨this.1, this.2.2⟩), by omega⟩
  · suffices hob : (Value.slice vA f.m vc).ownBlock = some a.block from ⟨hSv _ hob, (hvlt _ hob).2⟩
    rw [h]
    rcases hv.2 with ⟨e, _⟩ | ⟨g, cap, cur, e, _⟩
    · injection e with e1 e2 e3
      rw [h] at e1
      exact absurd e1 (by simp)
    · injection e with e1 e2 e3
      rw [h] at e1
      injection e1 with e1
      rw [e1]
      rfl
theorem CpBox.row {w : World} {r : Rw} (hr : r.ok) {c : Cp} {z : Nat} (h : CpBox w r c z) {S : Nat → Prop} (hS : ∀ i, own c z i → S i) : RowF w z r (fun i => S i ∧ i < w.heap.size) :=
  rowF_of (r := r) (f := r) hr rfl rfl rfl rfl ⟨h.cp.b, h.cp.d⟩ ⟨h.cp.cap.1, h.cp.cap.2.1⟩ hS h.cp.bl h.cp.dl h.bx h.cp.v (fun g hg => by have := h.cp.vl g hg; have := h.cp.sm; exact hS g (.inr ⟨by omega, by omega⟩)) h.cp.e
/-- a weighing appended to a copy -/
theorem CpBox.app {w w6 : World} {r : Rw} (hr : r.ok) (hm : r.m < 10) {c : Cp} {z g cap : Nat} {x : Wg} (hx : x.ok r.n) {o : Obj} (h : CpBox w r c z) (hz : z < c.s ∨ c.e ≤ z) {E0 : Nat} (hE : c.e ≤ E0) (hEw : E0 ≤ w.heap.size)
    (hown : w6.ownsRow c.m 35 4 (.slice (some ⟨g, 0, none⟩) (r.m + 1) cap) (r.m + 1) (rowC wgC r.V r.m ++ wgC x)) (hgr : (w.alloc o).grownBy w6 (Value.slice c.vA r.m c.vc).ownBlock) (hat : (Value.slice c.vA r.m c.vc).ownBlock = some g ∨ g = w.heap.size + 1) :
    RowF (w6.setCell ⟨z, 2, none⟩ (.slice (some ⟨g, 0, none⟩) (r.m + 1) cap)) z (r.more x) (fun i => (own c z i ∨ E0 ≤ i) ∧ i < (w6.setCell ⟨z, 2, none⟩ (.slice (some ⟨g, 0, none⟩) (r.m + 1) cap)).heap.size) ∧ (∀ i, i < w.heap.size → ¬ own c z i → (w6.setCell ⟨z, 2, none⟩ (.slice (some ⟨g, 0, none⟩) (r.m + 1) cap)).heap[i]? = w.heap[i]?) ∧ w.heap.size ≤ (w6.setCell ⟨z, 2, none⟩ (.slice (some ⟨g, 0, none⟩) (r.m + 1) cap)).heap.size ∧ ∀ s0, s0 ≤ c.s → s0 ≤ z → s0 ≤ w.heap.size → Below s0 w (w6.setCell ⟨z, 2, none⟩ (.slice (some ⟨g, 0, none⟩) (r.m + 1) cap)) := by
  have hzl := h.bx.lt
  have hs6 := hgr.size
  simp at hs6
  have hvl := fun q (hq : (Value.slice c.vA r.m c.vc).ownBlock = some q) => h.cp.vl q hq
  have hsm := h.cp.sm
  have hk : ∀ i, i < w.heap.size → (Value.slice c.vA r.m c.vc).ownBlock ≠ some i → w6.heap[i]? = w.heap[i]? := fun i hi hne => (hgr.block i (by simp; omega) (fun e => hne e.symm)).trans (Below.heap_alloc _ _ _ hi)
  have hzne : (Value.slice c.vA r.m c.vc).ownBlock ≠ some z := fun e => by have := hvl z e; omega
  have hgz : g ≠ z := fun e => by
    rcases hat with h1 | h1
    · rw [e] at h1; exact hzne h1
    · omega
  have hz6 := hk z hzl hzne
  have hce := h.cp.e
  have hb' : ∀ a, (c.bA = some a ∨ c.dA = some a) → (w6.setCell ⟨z, 2, none⟩ (.slice (some ⟨g, 0, none⟩) (r.m + 1) cap)).heap[a.block]? = w.heap[a.block]? := fun a ha => by
    have hbl : c.s ≤ a.block ∧ a.block < c.m ∧ a.block < c.e := by
      rcases ha with ha | ha
      · exact h.cp.bl a ha
      · exact h.cp.dl a ha
    refine (set_heap _ (by dsimp only; omega)).trans (hk _ (by omega) (fun e => ?_))
    have := hvl _ e
    omega
  refine ⟨?_, fun i hi hno => (set_heap _ (by dsimp only; exact fun e => hno (.inl e))).trans (hk i hi (fun e => by
      have := hvl i e
      exact hno (.inr ⟨by omega, by omega⟩))), by simp [World.setCell]; omega, fun s0 h1 h2 h3 => (Below.grown ((Below.refl _ w).alloc (by omega) _) hgr (by simp; omega) (fun q hq => by have := hvl q hq; omega)).setCell (by dsimp only; omega) _⟩
  refine rowF_of (S := fun i => own c z i ∨ E0 ≤ i) (r := r) (c := c) (v := .slice (some ⟨g, 0, none⟩) (r.m + 1) cap) (base := c.m) (Rw.more_ok hr hm hx) rfl rfl rfl rfl ⟨h.cp.b.keepA (fun a ha => hb' a (.inl ha)), h.cp.d.keepA (fun a ha => hb' a (.inr ha))⟩ ⟨h.cp.cap.1, h.cp.cap.2.1⟩ (fun i hi => .inl hi) h.cp.bl h.cp.dl ((h.bx.same hz6).set2 _) ?_ (fun q hq => ?_) (by simp [World.setCell]; omega)
  · have e : rowC wgC (r.more x).V (r.more x).m = rowC wgC r.V r.m ++ wgC x := by rw [rowC_put]; rfl
    show World.ownsRow _ _ _ _ _ (r.m + 1) _
    rw [e]
    exact owns_sm hown (fun q h1 h2 => set_heap _ (by
      dsimp only
      intro e
      exact hgz ((Option.some.inj h2).trans e)))
  · have : q = g := (Option.some.inj hq).symm
    rw [this]
    rcases hat with h1 | h1
    · have := hvl g h1
      exact .inl (.inr ⟨by omega, by omega⟩)
    · exact .inr (by omega)
/-- what stands below, and the second chute -/
structure MoB (W w : World) (s0 rx qb : Nat) (r : Rw) (X : Nat → Int) (bA dA vA xA : Option Addr) (bc dc vc : Nat) (tA : Option Addr) (tn tc : Nat) : Prop where
  at_ : RwAt w rx r bA bc dA dc vA vc
  row : RwRow w rx r bA bc dA dc vA vc
  xs : IntRow w rx xA r.n X
  q : Chute w W.heap.size qb tA tn tc
  bel : Below W.heap.size W w
  bd : W.heap.size ≤ rx ∧ rx < qb ∧ qb < s0
theorem MoB.keep {W w w' : World} {s0 rx qb : Nat} {r : Rw} {X : Nat → Int} {bA dA vA xA : Option Addr} {bc dc vc : Nat} {tA : Option Addr} {tn tc : Nat} (h : MoB W w s0 rx qb r X bA dA vA xA bc dc vc tA tn tc) (hb : Below s0 w w') : MoB W w' s0 rx qb r X bA dA vA xA bc dc vc tA tn tc :=
  ⟨h.at_.same (hb.block _ (by have := h.bd; omega)), h.row.later (hb.mono (by have := h.bd; omega)), h.xs.below (hb.mono (by have := h.bd; omega)), h.q.keep (fun i hi => hb.block i (by have := h.bd; omega)), h.bel.trans (hb.mono (by have := h.bd; omega)), h.bd⟩
theorem MoB.pull {W w w' : World} {s0 rx qb : Nat} {r : Rw} {X : Nat → Int} {bA dA vA xA : Option Addr} {bc dc vc : Nat} {tA : Option Addr} {tn tc : Nat} (h : MoB W w s0 rx qb r X bA dA vA xA bc dc vc tA tn tc) (hg : w.grownBy w' (some qb)) (hq : Chute w' W.heap.size qb tA tn tc) : MoB W w' s0 rx qb r X bA dA vA xA bc dc vc tA tn tc := by
  have hbd := h.bd
  have hl := h.at_.lt
  have hk : ∀ i, i ≤ rx → w'.heap[i]? = w.heap[i]? := fun i hi => hg.block i (by omega) (fun e => by injection e with e; omega)
  have hb : Below rx w w' := gb_below hg (by omega) (by omega)
  exact ⟨h.at_.same (hk _ (Nat.le_refl _)), h.row.later hb, h.xs.below hb, hq, h.bel.trans (hb.mono (by omega)), hbd⟩
theorem CpBox.pull {w w' : World} {r : Rw} {c : Cp} {z s0 qb : Nat} (h : CpBox w r c z) (hg : w.grownBy w' (some qb)) (hs : s0 ≤ c.s ∧ s0 ≤ z) (hq : qb < s0) : CpBox w' r c z := by
  have hz := h.bx.lt
  have he := h.cp.e
  exact h.keep (fun i hi => hg.block i (by rcases hi with h1 | h1 <;> omega) (fun e => by injection e with e; rcases hi with h1 | h1 <;> omega)) hg.size
theorem CpBox.later {w w' : World} {r : Rw} {c : Cp} {z : Nat} (h : CpBox w r c z) (hb : Below w.heap.size w w') : CpBox w' r c z := by
  have hz := h.bx.lt
  have he := h.cp.e
  exact h.keep (fun i hi => hb.block i (by rcases hi with h1 | h1 <;> omega)) hb.size
theorem SepN.lo {s0 E0 : Nat} {C : Nat → Cp} {z : Nat → Nat} (h : SepN s0 E0 C z) {j : Nat} (hj : j < 4) : s0 ≤ (C j).s ∧ s0 ≤ z j := ⟨(h.s j hj).1, (h.zz j hj).1⟩
/-- before the rows are changed: the weighing in its box -/
structure MoW (W w : World) (s0 E0 rx qb : Nat) (r : Rw) (X : Nat → Int) (bA dA vA xA : Option Addr) (bc dc vc : Nat) (tA : Option Addr) (tn tc : Nat) (C : Nat → Cp) (z : Nat → Nat) (wb : Nat) (y : Wg) : Prop where
  mb : MoB W w s0 rx qb r X bA dA vA xA bc dc vc tA tn tc
  b : ∀ j, j < 4 → CpBox w r (C j) (z j)
  sp : SepN s0 E0 C z
  wx : WxAt w wb y
  yo : y.ok r.n
  wl : E0 ≤ wb ∧ E0 ≤ w.heap.size ∧ s0 ≤ E0
theorem MoW.pull {W w w' : World} {s0 E0 rx qb : Nat} {r : Rw} {X : Nat → Int} {bA dA vA xA : Option Addr} {bc dc vc : Nat} {tA : Option Addr} {tn tc : Nat} {C : Nat → Cp} {z : Nat → Nat} {wb : Nat} {y : Wg} (h : MoW W w s0 E0 rx qb r X bA dA vA xA bc dc vc tA tn tc C z wb y) (hg : w.grownBy w' (some qb)) (hq : Chute w' W.heap.size qb tA tn tc) : MoW W w' s0 E0 rx qb r X bA dA vA xA bc dc vc tA tn tc C z wb y := by
  have hl := h.wl
  have hbd := h.mb.bd
  have hwl : wb < w.heap.size := World.block_lt_of_cell? w _ h.wx.c0
  exact ⟨h.mb.pull hg hq, fun j hj => (h.b j hj).pull hg (h.sp.lo hj) hbd.2.2, h.sp, h.wx.same (hg.block _ hwl (fun e => by injection e with e; omega)), h.yo, by have := hg.size; omega⟩
theorem MoW.setp {W w : World} {s0 E0 rx qb : Nat} {r : Rw} {X : Nat → Int} {bA dA vA xA : Option Addr} {bc dc vc : Nat} {tA : Option Addr} {tn tc : Nat} {C : Nat → Cp} {z : Nat → Nat} {wb : Nat} {y : Wg} (h : MoW W w s0 E0 rx qb r X bA dA vA xA bc dc vc tA tn tc C z wb y) (p : Int) (hp : 0 ≤ p ∧ p ≤ 3000) : MoW W (w.setCell ⟨wb, 2, none⟩ (.int .i64 p)) s0 E0 rx qb r X bA dA vA xA bc dc vc tA tn tc C z wb ⟨y.f, y.t, p, y.e⟩ := by
  have hl := h.wl
  have hb : Below E0 w (w.setCell ⟨wb, 2, none⟩ (.int .i64 p)) := (Below.refl _ w).setCell (by dsimp only; omega) _
  have hk : ∀ i, i ≠ wb → (w.setCell ⟨wb, 2, none⟩ (.int .i64 p)).heap[i]? = w.heap[i]? := fun i hi => set_heap _ (by exact hi)
  refine ⟨h.mb.keep (hb.mono hl.2.2), fun j hj => (h.b j hj).keep (fun i hi => hk i ?_) hb.size, h.sp, h.wx.setp p, ⟨hp, h.yo.e, h.yo.f, h.yo.ft, h.yo.t⟩, by have := hb.size; omega⟩
  have h1 := h.sp.s j hj
  have h2 := h.sp.zz j hj
  rcases hi with h3 | h3 <;> omega
theorem SepN.off {s0 E0 : Nat} {C : Nat → Cp} {z : Nat → Nat} (h : SepN s0 E0 C z) {i j : Nat} (hi : i < 4) (hj : j < 4) (hne : i ≠ j) {q : Nat} (hq : own (C i) (z i) q ∨ E0 ≤ q) : ¬ own (C j) (z j) q := by
  have s1 := h.s j hj
  have s2 := h.zz j hj
  have a1 := h.aa i j hne hi hj
  have a2 := h.ac i j hi hj
  have a3 := h.ac j i hj hi
  have hc : (C i).e ≤ (C j).s ∨ (C j).e ≤ (C i).s := by
    rcases Nat.lt_or_ge i j with h1 | h1
    · exact .inl (h.cc i j h1 hj)
    · exact .inr (h.cc j i (by omega) hi)
  rintro (h1 | h1) <;> rcases hq with (h2 | h2) | h2 <;> omega
def OkF (w : World) (E0 : Nat) (C : Nat → Cp) (z : Nat → Nat) (j : Nat) (f : Rw) : Prop := RowF w (z j) f (fun i => own (C j) (z j) i ∨ E0 ≤ i)
theorem OkF.keep {w w' : World} {s0 E0 : Nat} {C : Nat → Cp} {z : Nat → Nat} {i j : Nat} {f : Rw} (h : OkF w E0 C z i f) (sp : SepN s0 E0 C z) (hi : i < 4) (hj : j < 4) (hne : i ≠ j) (hk : ∀ q, q < w.heap.size → ¬ own (C j) (z j) q → w'.heap[q]? = w.heap[q]?) (hs : w.heap.size ≤ w'.heap.size) : OkF w' E0 C z i f :=
  RowF.keep h (fun q hq hl => hk q hl (sp.off hi hj hne hq)) hs
theorem CpBox.off {w w' : World} {r : Rw} {s0 E0 : Nat} {C : Nat → Cp} {z : Nat → Nat} {i j : Nat} (h : CpBox w r (C i) (z i)) (sp : SepN s0 E0 C z) (hi : i < 4) (hj : j < 4) (hne : i ≠ j) (hk : ∀ q, q < w.heap.size → ¬ own (C j) (z j) q → w'.heap[q]? = w.heap[q]?) (hs : w.heap.size ≤ w'.heap.size) : CpBox w' r (C i) (z i) :=
  h.keep (fun q hq => hk q (by have := h.bx.lt; have := h.cp.e; rcases hq with h1 | h1 <;> omega) (sp.off hi hj hne (.inl hq))) hs
theorem OkF.pull {w w' : World} {s0 E0 qb : Nat} {C : Nat → Cp} {z : Nat → Nat} {i : Nat} {f : Rw} (h : OkF w E0 C z i f) (sp : SepN s0 E0 C z) (hi : i < 4) (hq : qb < s0) (he : s0 ≤ E0) (hg : w.grownBy w' (some qb)) : OkF w' E0 C z i f :=
  RowF.keep h (fun q hq' hl => hg.block q hl (fun e => by
    injection e with e
    have := sp.lo hi
    rcases hq' with (h1 | h1) | h1 <;> omega)) hg.size
theorem OkF.later {w w' : World} {E0 : Nat} {C : Nat → Cp} {z : Nat → Nat} {i : Nat} {f : Rw} (h : OkF w E0 C z i f) (hb : Below w.heap.size w w') : OkF w' E0 C z i f :=
  RowF.keep h (fun q _ hl => hb.block q hl) hb.size
/-- a copy's error made greater -/
theorem CpBox.loose {w : World} {r : Rw} {c : Cp} {z j : Nat} (h : CpBox w r c z) (hr : r.ok) (hj : j < r.m) {x : Int} (hx : 0 ≤ x) (h100 : (r.V j).e + x ≤ 100) {g : Nat} (hA : c.vA = some ⟨g, 0, none⟩) (hz : z < c.s ∨ c.e ≤ z) {S : Nat → Prop} (hS : ∀ i, own c z i → S i) :
    RowF (w.setCell ⟨g, j * 4 + 3, none⟩ (.int .i64 ((r.V j).e + x))) z (r.wgs (loosV r.V j x)) S ∧ (∀ i, ¬ own c z i → (w.setCell ⟨g, j * 4 + 3, none⟩ (.int .i64 ((r.V j).e + x))).heap[i]? = w.heap[i]?) ∧ c.s ≤ g := by
  have hg := h.cp.vl g (by rw [hA]; rfl)
  have hsm := h.cp.sm
  have hk : ∀ i, i ≠ g → (w.setCell ⟨g, j * 4 + 3, none⟩ (.int .i64 ((r.V j).e + x))).heap[i]? = w.heap[i]? := fun i hi => set_heap _ (by exact hi)
  have hgz : g ≠ z := by omega
  refine ⟨?_, fun i hi => hk i (fun e => hi (.inr ⟨by omega, by omega⟩)), by omega⟩
  obtain ⟨vA, vc, e0, ho, hvc⟩ := OwnWg.of h.cp.v
  injection e0 with e1 e2 e3
  have hok := Rw.loose_ok hr hj hx h100
  refine ⟨c.bA, c.dA, c.vA, c.bc, c.dc, c.vc, ⟨cell_same (hk z (fun e => hgz e.symm)) h.bx.c0, cell_same (hk z (fun e => hgz e.symm)) h.bx.c1, cell_same (hk z (fun e => hgz e.symm)) h.bx.c2⟩, ⟨Nat.le_refl _, (h.cp.b.keepA (fun a ha => hk _ (by have := h.cp.bl a ha; omega))).row, (h.cp.d.keepA (fun a ha => hk _ (by have := h.cp.dl a ha; omega))).row, ?_, by show r.n ≤ 1000; have := hr.n6; omega, by show r.d ≤ 1000; have := hr.d7; omega, by show r.m ≤ 1000; have := hr.m10; omega, h.cp.cap.1, h.cp.cap.2.1, h.cp.cap.2.2⟩, hS z (.inl rfl), ?_⟩
  · intro k hk'
    obtain ⟨b, hA', hl, c0, c1, c2, c3, -⟩ := ho k hk'
    rw [← e1, hA] at hA'
    injection hA' with hA'
    injection hA' with hA' _
    subst hA'
    have hgl := World.block_lt_of_cell? w _ c0
    refine ⟨g, 0, hA, by simp [World.setCell]; exact hgl, ?_, ?_, ?_, ?_⟩
    · rw [Nat.zero_add, cell_ne (by omega) c0]
      show _ = some (Value.int _ (loosV r.V j x k).f)
      unfold loosV
      by_cases e : k = j
      · rw [if_pos e, e]
      · rw [if_neg e]
    · rw [Nat.zero_add, cell_ne (by omega) c1]
      show _ = some (Value.int _ (loosV r.V j x k).t)
      unfold loosV
      by_cases e : k = j
      · rw [if_pos e, e]
      · rw [if_neg e]
    · rw [Nat.zero_add, cell_ne (by omega) c2]
      show _ = some (Value.int _ (loosV r.V j x k).p)
      unfold loosV
      by_cases e : k = j
      · rw [if_pos e, e]
      · rw [if_neg e]
    · rw [Nat.zero_add]
      show _ = some (Value.int _ (loosV r.V j x k).e)
      unfold loosV
      by_cases e : k = j
      · rw [if_pos e, e]
        rw [e] at c3
        simp [go_sem, c3]
      · rw [if_neg e, cell_ne (by omega) c3]
  · rintro a (h1 | h1 | h1)
    · have := h.cp.bl a h1
      exact hS _ (.inr ⟨this.1, this.2.2⟩)
    · have := h.cp.dl a h1
      exact hS _ (.inr ⟨this.1, this.2.2⟩)
    · rw [hA] at h1
      injection h1 with h1
      subst h1
      exact hS _ (.inr ⟨by dsimp only; omega, by dsimp only; omega⟩)
end Go.Proofs.Ytnnikeolgknfoaa

set_option linter.unusedSimpArgs false
set_option linter.unusedVariables false
namespace Go.Proofs.Ytnnikeolgknfoaa
open Go.RowKit Go.Shelf

def mixV (r : Rw) (Y : Nat → Int) : Nat → Wg := fun i => r.V (Y i).toNat
/-- while the weighings are put in another order -/
structure LMx (W w : World) (s0 E0 rx qb : Nat) (r : Rw) (X : Nat → Int) (bA dA vA xA : Option Addr) (bc dc vc : Nat) (tA : Option Addr) (tn tc : Nat) (C : Nat → Cp) (z : Nat → Nat) (f : Rw) (M : Nat) (yA : Option Addr) (Y : Nat → Int) (k : Nat) (v : Value) : Prop where
  mb : MoB W w s0 rx qb r X bA dA vA xA bc dc vc tA tn tc
  sp : SepN s0 E0 C z
  f : RowF w (z 0) f (fun i => (own (C 0) (z 0) i ∨ E0 ≤ i) ∧ i < M)
  b2 : CpBox w r (C 2) (z 2)
  b3 : CpBox w r (C 3) (z 3)
  c1b : OwnBn w (C 1).s (C 1).bA r.n r.B
  c1d : OwnInt w (C 1).s (C 1).dA r.d r.D
  bl : ∀ a, (C 1).bA = some a → (C 1).s ≤ a.block ∧ a.block < (C 1).m ∧ a.block < (C 1).e
  dl : ∀ a, (C 1).dA = some a → (C 1).s ≤ a.block ∧ a.block < (C 1).m ∧ a.block < (C 1).e
  cap : r.n ≤ (C 1).bc ∧ r.d ≤ (C 1).dc
  v3 : V3 w (z 1) (.slice (C 1).bA r.n (C 1).bc) (.slice (C 1).dA r.d (C 1).dc) v
  ow : w.ownsRow M 35 4 v k (rowC wgC (mixV r Y) k)
  yr : IntRow w M yA r.m Y
  ml : s0 ≤ E0 ∧ E0 ≤ M ∧ M ≤ w.heap.size
theorem IntRow.keepS {w w' : World} {B n : Nat} {A : Option Addr} {P : Nat → Int} (h : IntRow w B A n P) (hk : ∀ i, i < B → (∃ a, A = some a ∧ a.block = i) → w'.heap[i]? = w.heap[i]?) : IntRow w' B A n P := fun k hk' => by
  obtain ⟨b, o, hA, hb, c0⟩ := h k hk'
  exact ⟨b, o, hA, hb, cell_same (hk b hb ⟨_, hA, rfl⟩) c0⟩
theorem LMx.app {W w w6 : World} {s0 E0 rx qb : Nat} {r : Rw} {X : Nat → Int} {bA dA vA xA : Option Addr} {bc dc vc : Nat} {tA : Option Addr} {tn tc : Nat} {C : Nat → Cp} {z : Nat → Nat} {f : Rw} {M : Nat} {yA : Option Addr} {Y : Nat → Int} {k g cap : Nat} {v : Value} {o : Obj}
    (h : LMx W w s0 E0 rx qb r X bA dA vA xA bc dc vc tA tn tc C z f M yA Y k v) (hy : ∀ a, yA = some a → a.block ≠ z 1)
    (hown : w6.ownsRow M 35 4 (.slice (some ⟨g, 0, none⟩) (k + 1) cap) (k + 1) (rowC wgC (mixV r Y) k ++ wgC (r.V (Y k).toNat))) (hgr : (w.alloc o).grownBy w6 v.ownBlock) (hat : v.ownBlock = some g ∨ g = w.heap.size + 1) :
    LMx W (w6.setCell ⟨z 1, 2, none⟩ (.slice (some ⟨g, 0, none⟩) (k + 1) cap)) s0 E0 rx qb r X bA dA vA xA bc dc vc tA tn tc C z f M yA Y (k + 1) (.slice (some ⟨g, 0, none⟩) (k + 1) cap) := by
  have hml := h.ml
  have hvl := h.ow.lt
  have hz1 := h.sp.zz 1 (by omega)
  have hs6 := hgr.size
  simp at hs6
  have hgM : M ≤ g := by
    rcases hat with h1 | h1
    · exact (hvl g h1).1
    · omega
  have hk : ∀ i, i < M → i ≠ z 1 → (w6.setCell ⟨z 1, 2, none⟩ (.slice (some ⟨g, 0, none⟩) (k + 1) cap)).heap[i]? = w.heap[i]? := fun i hi hne =>
    (set_heap _ (by dsimp only; exact hne)).trans ((hgr.block i (by simp; omega) (fun e => by have := (hvl i e.symm).1; omega)).trans (Below.heap_alloc _ _ _ (by omega)))
  have hz6 : w6.heap[z 1]? = w.heap[z 1]? := (hgr.block (z 1) (by simp; omega) (fun e => by have := (hvl _ e.symm).1; omega)).trans (Below.heap_alloc _ _ _ (by omega))
  have hsz : w.heap.size ≤ (w6.setCell ⟨z 1, 2, none⟩ (.slice (some ⟨g, 0, none⟩) (k + 1) cap)).heap.size := by simp [World.setCell]; omega
  have hbel : Below s0 w (w6.setCell ⟨z 1, 2, none⟩ (.slice (some ⟨g, 0, none⟩) (k + 1) cap)) := (Below.grown ((Below.refl _ w).alloc (by omega) _) hgr (by simp; omega) (fun q hq => by have := (hvl q hq).1; omega)).setCell (by dsimp only; omega) _
  have s2 := h.sp.s 2 (by omega)
  have s3 := h.sp.s 3 (by omega)
  have s1 := h.sp.s 1 (by omega)
  have sz2 := h.sp.zz 2 (by omega)
  have sz3 := h.sp.zz 3 (by omega)
  have a12 := h.sp.aa 1 2 (by omega) (by omega) (by omega)
  have a13 := h.sp.aa 1 3 (by omega) (by omega) (by omega)
  have a10 := h.sp.aa 1 0 (by omega) (by omega) (by omega)
  have ac2 := h.sp.ac 2 1 (by omega) (by omega)
  have ac3 := h.sp.ac 3 1 (by omega) (by omega)
  have ac1 := h.sp.ac 1 1 (by omega) (by omega)
  have ac0 := h.sp.ac 0 1 (by omega) (by omega)
  refine ⟨h.mb.keep hbel, h.sp, h.f.keep (fun i hi hl => hk i hi.2 ?_) hsz, h.b2.keep (fun i hi => hk i ?_ ?_) hsz, h.b3.keep (fun i hi => hk i ?_ ?_) hsz, h.c1b.keepA (fun a ha => ?_), h.c1d.keepA (fun a ha => ?_), h.bl, h.dl, h.cap, (h.v3.same hz6).set2 _, ?_, h.yr.keepS (fun i hi ha => hk i hi ?_), by omega⟩
  · intro e
    subst e
    rcases hi.1 with h1 | h1
    · rcases h1 with h1 | h1 <;> omega
    · omega
  · rcases hi with h1 | h1 <;> omega
  · rcases hi with h1 | h1 <;> omega
  · rcases hi with h1 | h1 <;> omega
  · rcases hi with h1 | h1 <;> omega
  · have := h.bl a ha
    exact hk _ (by omega) (by omega)
  · have := h.dl a ha
    exact hk _ (by omega) (by omega)
  · have e : rowC wgC (mixV r Y) (k + 1) = rowC wgC (mixV r Y) k ++ wgC (r.V (Y k).toNat) := rfl
    rw [e]
    exact owns_sm hown (fun q h1 h2 => set_heap _ (by
      dsimp only
      have : q = g := (Option.some.inj h2).symm
      omega))
  · intro e
    obtain ⟨a, ha, hb⟩ := ha
    exact hy a ha (hb.trans e)
theorem LMx.start {W w w2 : World} {s0 E0 rx qb : Nat} {r : Rw} {X : Nat → Int} {bA dA vA xA : Option Addr} {bc dc vc : Nat} {tA : Option Addr} {tn tc : Nat} {C : Nat → Cp} {z : Nat → Nat} {f : Rw} {yA : Option Addr} {Y : Nat → Int} {lo : Nat}
    (mb : MoB W w s0 rx qb r X bA dA vA xA bc dc vc tA tn tc) (sp : SepN s0 E0 C z) (hf : RowF w (z 0) f (fun i => (own (C 0) (z 0) i ∨ E0 ≤ i) ∧ i < w.heap.size)) (b1 : CpBox w r (C 1) (z 1)) (b2 : CpBox w r (C 2) (z 2)) (b3 : CpBox w r (C 3) (z 3)) (hl : s0 ≤ E0 ∧ E0 ≤ w.heap.size)
    (hg : (w.setCell ⟨z 1, 2, none⟩ nilS).grownBy w2 (some qb)) (hq : Chute w2 W.heap.size qb tA tn tc) (hy : OwnInt w2 lo yA r.m Y) : LMx W w2 s0 E0 rx qb r X bA dA vA xA bc dc vc tA tn tc C z f w2.heap.size yA Y 0 nilS := by
  have hbd := mb.bd
  have hk0 : ∀ q, q < w.heap.size → ¬ own (C 1) (z 1) q → (w.setCell ⟨z 1, 2, none⟩ nilS).heap[q]? = w.heap[q]? := fun q _ hq => set_heap _ (by dsimp only; exact fun e => hq (.inl e))
  have hs0 : w.heap.size ≤ (w.setCell ⟨z 1, 2, none⟩ nilS).heap.size := by simp [World.setCell]
  have hs2 := hg.size
  have hz1 := sp.zz 1 (by omega)
  have hz1s := sp.s 1 (by omega)
  have ac1 := sp.ac 1 1 (by omega) (by omega)
  have hbel : Below s0 w (w.setCell ⟨z 1, 2, none⟩ nilS) := (Below.refl _ w).setCell (by dsimp only; omega) _
  have hzl := b1.bx.lt
  have he1 := b1.cp.e
  have hkp : ∀ i, s0 ≤ i → i < w.heap.size → i ≠ z 1 → w2.heap[i]? = w.heap[i]? := fun i h1 h2 h3 => (hg.block i (by omega) (fun e => by injection e with e; omega)).trans (set_heap _ (by exact h3))
  have f1 : RowF (w.setCell ⟨z 1, 2, none⟩ nilS) (z 0) f (fun i => (own (C 0) (z 0) i ∨ E0 ≤ i) ∧ i < w.heap.size) := hf.keep (fun q hq hl => hk0 q hl (sp.off (by omega) (by omega) (by omega) hq.1)) hs0
  have f2 : RowF w2 (z 0) f (fun i => (own (C 0) (z 0) i ∨ E0 ≤ i) ∧ i < w.heap.size) := f1.keep (fun q hq hl => hg.block q hl (fun e => by
    injection e with e
    have := sp.lo (j := 0) (by omega)
    rcases hq.1 with (h1 | h1) | h1 <;> omega)) hs2
  refine ⟨(mb.keep hbel).pull hg hq, sp, f2.weak (fun i hi => ⟨hi.1, by omega⟩), (b2.off sp (by omega) (by omega) (by omega) hk0 hs0).pull hg (sp.lo (by omega)) hbd.2.2, (b3.off sp (by omega) (by omega) (by omega) hk0 hs0).pull hg (sp.lo (by omega)) hbd.2.2,
    b1.cp.b.keepA (fun a ha => by have := b1.cp.bl a ha; exact hkp _ (by omega) (by omega) (by omega)), b1.cp.d.keepA (fun a ha => by have := b1.cp.dl a ha; exact hkp _ (by omega) (by omega) (by omega)), b1.cp.bl, b1.cp.dl, ⟨b1.cp.cap.1, b1.cp.cap.2.1⟩, (b1.bx.set2 nilS).same (hg.block _ (by omega) (fun e => by injection e with e; omega)), World.ownsRow_nil _ _ _ _, hy.row, by omega⟩
/-- the rows of BinMore: two whole, two still to be changed -/
structure Mo3 (W w : World) (s0 E0 rx qb : Nat) (r : Rw) (X : Nat → Int) (bA dA vA xA : Option Addr) (bc dc vc : Nat) (tA : Option Addr) (tn tc : Nat) (C : Nat → Cp) (z : Nat → Nat) (f mm : Rw) : Prop where
  mb : MoB W w s0 rx qb r X bA dA vA xA bc dc vc tA tn tc
  sp : SepN s0 E0 C z
  f : OkF w E0 C z 0 f
  m : OkF w E0 C z 1 mm
  b2 : CpBox w r (C 2) (z 2)
  b3 : CpBox w r (C 3) (z 3)
  l : s0 ≤ E0 ∧ E0 ≤ w.heap.size
/-- .. and all four -/
structure Mo4 (W w : World) (s0 E0 rx qb : Nat) (r : Rw) (X : Nat → Int) (bA dA vA xA : Option Addr) (bc dc vc : Nat) (tA : Option Addr) (tn tc : Nat) (C : Nat → Cp) (z : Nat → Nat) (f mm t l : Rw) : Prop where
  mb : MoB W w s0 rx qb r X bA dA vA xA bc dc vc tA tn tc
  f : OkF w E0 C z 0 f
  m : OkF w E0 C z 1 mm
  t : OkF w E0 C z 2 t
  l : OkF w E0 C z 3 l
theorem LMx.end {W w : World} {s0 E0 rx qb : Nat} {r : Rw} {X : Nat → Int} {bA dA vA xA : Option Addr} {bc dc vc : Nat} {tA : Option Addr} {tn tc : Nat} {C : Nat → Cp} {z : Nat → Nat} {f : Rw} {M : Nat} {yA : Option Addr} {Y : Nat → Int} {v : Value} (hr : r.ok) (hp : PermN r.m Y)
    (h : LMx W w s0 E0 rx qb r X bA dA vA xA bc dc vc tA tn tc C z f M yA Y r.m v) : Mo3 W w s0 E0 rx qb r X bA dA vA xA bc dc vc tA tn tc C z f (r.wgs (mixV r Y)) := by
  have hml := h.ml
  have s1 := h.sp.s 1 (by omega)
  exact ⟨h.mb, h.sp, h.f.weak (fun i hi => hi.1), (rowF_of (S := fun i => own (C 1) (z 1) i ∨ E0 ≤ i) (r := r) (f := r.wgs (mixV r Y)) (Rw.mixed_ok hr hp) rfl rfl rfl rfl ⟨h.c1b, h.c1d⟩ h.cap (fun i hi => .inl hi) h.bl h.dl h.v3 h.ow (fun g hg => .inr (by have := (h.ow.lt g hg).1; omega)) (by omega)).weak (fun i hi => hi.1), h.b2, h.b3, by omega⟩
theorem Mo3.pull {W w w' : World} {s0 E0 rx qb : Nat} {r : Rw} {X : Nat → Int} {bA dA vA xA : Option Addr} {bc dc vc : Nat} {tA : Option Addr} {tn tc : Nat} {C : Nat → Cp} {z : Nat → Nat} {f mm : Rw} (h : Mo3 W w s0 E0 rx qb r X bA dA vA xA bc dc vc tA tn tc C z f mm) (hg : w.grownBy w' (some qb)) (hq : Chute w' W.heap.size qb tA tn tc) : Mo3 W w' s0 E0 rx qb r X bA dA vA xA bc dc vc tA tn tc C z f mm := by
  have hbd := h.mb.bd
  have hl := h.l
  exact ⟨h.mb.pull hg hq, h.sp, h.f.pull h.sp (by omega) hbd.2.2 hl.1 hg, h.m.pull h.sp (by omega) hbd.2.2 hl.1 hg, h.b2.pull hg (h.sp.lo (by omega)) hbd.2.2, h.b3.pull hg (h.sp.lo (by omega)) hbd.2.2, by have := hg.size; omega⟩
theorem Mo3.later {W w w' : World} {s0 E0 rx qb : Nat} {r : Rw} {X : Nat → Int} {bA dA vA xA : Option Addr} {bc dc vc : Nat} {tA : Option Addr} {tn tc : Nat} {C : Nat → Cp} {z : Nat → Nat} {f mm : Rw} (h : Mo3 W w s0 E0 rx qb r X bA dA vA xA bc dc vc tA tn tc C z f mm) (hb : Below w.heap.size w w') : Mo3 W w' s0 E0 rx qb r X bA dA vA xA bc dc vc tA tn tc C z f mm := by
  have hbd := h.mb.bd
  have hl := h.l
  exact ⟨h.mb.keep (hb.mono (by omega)), h.sp, h.f.later hb, h.m.later hb, h.b2.later hb, h.b3.later hb, by have := hb.size; omega⟩
theorem Mo4.later {W w w' : World} {s0 E0 rx qb : Nat} {r : Rw} {X : Nat → Int} {bA dA vA xA : Option Addr} {bc dc vc : Nat} {tA : Option Addr} {tn tc : Nat} {C : Nat → Cp} {z : Nat → Nat} {f mm t l : Rw} (h : Mo4 W w s0 E0 rx qb r X bA dA vA xA bc dc vc tA tn tc C z f mm t l) (hs : s0 ≤ w.heap.size) (hb : Below w.heap.size w w') : Mo4 W w' s0 E0 rx qb r X bA dA vA xA bc dc vc tA tn tc C z f mm t l :=
  ⟨h.mb.keep (hb.mono hs), h.f.later hb, h.m.later hb, h.t.later hb, h.l.later hb⟩
/-- one twice -/
theorem Mo3.twice {W w w6 : World} {s0 E0 rx qb : Nat} {r : Rw} {X : Nat → Int} {bA dA vA xA : Option Addr} {bc dc vc : Nat} {tA : Option Addr} {tn tc : Nat} {C : Nat → Cp} {z : Nat → Nat} {f mm : Rw} (h : Mo3 W w s0 E0 rx qb r X bA dA vA xA bc dc vc tA tn tc C z f mm) (hr : r.ok) (hm : r.m < 10) {x : Wg} (hx : x.ok r.n) {o : Obj} {g cap : Nat}
    (hown : w6.ownsRow (C 2).m 35 4 (.slice (some ⟨g, 0, none⟩) (r.m + 1) cap) (r.m + 1) (rowC wgC r.V r.m ++ wgC x)) (hgr : (w.alloc o).grownBy w6 (Value.slice (C 2).vA r.m (C 2).vc).ownBlock) (hat : (Value.slice (C 2).vA r.m (C 2).vc).ownBlock = some g ∨ g = w.heap.size + 1) :
    ∃ w', w' = w6.setCell ⟨z 2, 2, none⟩ (.slice (some ⟨g, 0, none⟩) (r.m + 1) cap) ∧ MoB W w' s0 rx qb r X bA dA vA xA bc dc vc tA tn tc ∧ OkF w' E0 C z 0 f ∧ OkF w' E0 C z 1 mm ∧ OkF w' E0 C z 2 (r.more x) ∧ CpBox w' r (C 3) (z 3) ∧ E0 ≤ w'.heap.size := by
  have hl := h.l
  have lo := h.sp.lo (j := 2) (by omega)
  obtain ⟨h1, h2, h3, h4⟩ := h.b2.app hr hm hx (h.sp.ac 2 2 (by omega) (by omega)) (h.sp.s 2 (by omega)).2 hl.2 hown hgr hat
  exact ⟨_, rfl, h.mb.keep (h4 s0 lo.1 lo.2 (by omega)), h.f.keep h.sp (by omega) (by omega) (by omega) h2 h3, h.m.keep h.sp (by omega) (by omega) (by omega) h2 h3, h1.weak (fun i hi => hi.1), h.b3.off h.sp (by omega) (by omega) (by omega) h2 h3, by omega⟩
theorem LMx.drew {W w : World} {s0 E0 rx qb : Nat} {r : Rw} {X : Nat → Int} {bA dA vA xA : Option Addr} {bc dc vc : Nat} {tA : Option Addr} {tn tc : Nat} {C : Nat → Cp} {z : Nat → Nat} {f : Rw} {M : Nat} {yA : Option Addr} {Y : Nat → Int} {k : Nat} {v : Value}
    (h : LMx W w s0 E0 rx qb r X bA dA vA xA bc dc vc tA tn tc C z f M yA Y k v) : LMx W w.drew s0 E0 rx qb r X bA dA vA xA bc dc vc tA tn tc C z f M yA Y k v := by
  have hb : Below w.heap.size w w.drew := (Below.refl _ w).drew
  have hml := h.ml
  have hs : w.heap.size ≤ w.drew.heap.size := hb.size
  have s1 := h.sp.s 1 (by omega)
  exact ⟨h.mb.keep (hb.mono (by omega)), h.sp, h.f.keep (fun i _ hl => hb.block i hl) hs, h.b2.later hb, h.b3.later hb, h.c1b.later hb, h.c1d.later hb, h.bl, h.dl, h.cap, h.v3.same (hb.block _ h.v3.lt), owns_later h.ow hb, h.yr.below (hb.mono (by omega)), by omega⟩

set_option maxRecDepth 100000 in
set_option maxHeartbeats 8000000 in
theorem more_loop1 (W : World) (s0 E0 rx qb : Nat) (r : Rw) (X : Nat → Int) (bA dA vA xA : Option Addr) (bc dc vc : Nat) (tA : Option Addr) (tn tc : Nat) (C : Nat → Cp) (z : Nat → Nat) (f : Rw) (M : Nat) (yA : Option Addr) (yc : Nat) (Y : Nat → Int) (HP : Hid (PermN r.m Y)) (hm5 : r.m ≤ 5) (hy : 0 < r.m → ∀ a, yA = some a → a.block ≠ z 1) (hvc : r.m ≤ vc) {u0 u1 u2 u3 u4 u6 u7 u8 u10 u11 u12 u13 u14 u15 u16 u17 u18 u19 u20 u21 u22 u23 u24 u25 u26 u27 u28 u29 u30 u31 u32 u33 u34 u35 u36 u37 u38 u39 u40 u41 u42 u43 u44 u45 u46 u47 u48 u49 u50 u51 u52 u53 u54 u55 u56 u57 u58 u59 u60 u61 u65 u66 u67 u68 u69 u70 u71 u72 u73 u74 u75 u76 u77 u78 u79 u80 u81 u82 u83 u84 u85 u86 u87 u88 u89 u90 u91 u92 u93 u94 u95 u96 u97 u98 u99 u100 u101 u102 u103 u104 u105 u106 u107 u108 u109 u110 u111 u112 u113 u114 u115 u116 u117 u118 u119 u120 u121 u122 u123 u124 u125 u126 u127 u128 u129 u130 u131 u132 u133 u134 u135 u136 u137 u138 u139 u140 u141 u142 u143 u144 u145 u146 u147 u148 u149 u150 u151 u152 u153 u154 u155 u156 u157 u158 u159 u160 u161 u162 u163 u164 u165 u166 u167 u168 u169 u170 u171 u172 u173 u174 u175 u176 u177 u178 u179 u180 u181 u182 u183 u184 u185 u186 u187 u188 u189 u190 u191 u192 u193 u194 u195 u196 u197 u198 u199 u200 u201 u202 u203 u204 u205 u206 u207 u208 u209 u210 u211 u212 u213 u214 u215 u216 u217 u218 u219 u220 u221 u222 u223 u224 u225 u226 u227 u228 u229 : Value} (w : World) (v0 : Value)
    (HL : Hid (LMx W w s0 E0 rx qb r X bA dA vA xA bc dc vc tA tn tc C z f M yA Y 0 v0))
    (Q : Exit → Act → World → Prop) (hK : ∀ {x14 x64 x65 x66 x67 x68 x69 x70 x71 x72 x73 x74 x75 x76 x77 x78 : Value} (w' : World), (∃ v, Hid (LMx W w' s0 E0 rx qb r X bA dA vA xA bc dc vc tA tn tc C z f M yA Y r.m v)) → Q .normal ⟨(List.toArray (u0 :: u1 :: u2 :: u3 :: u4 :: (.pointer (some ⟨rx, 0, none⟩)) :: u6 :: u7 :: u8 :: (.pointer (some ⟨z 1, 0, none⟩)) :: u10 :: u11 :: u12 :: u13 :: x14 :: u15 :: u16 :: u17 :: u18 :: u19 :: u20 :: u21 :: u22 :: u23 :: u24 :: u25 :: u26 :: u27 :: u28 :: u29 :: u30 :: u31 :: u32 :: u33 :: u34 :: u35 :: u36 :: u37 :: u38 :: u39 :: u40 :: u41 :: u42 :: u43 :: u44 :: u45 :: u46 :: u47 :: u48 :: u49 :: u50 :: u51 :: u52 :: u53 :: u54 :: u55 :: u56 :: u57 :: u58 :: u59 :: u60 :: u61 :: (.slice yA r.m yc) :: (.int .i64 (r.m : Int)) :: x64 :: x65 :: x66 :: x67 :: x68 :: x69 :: x70 :: x71 :: x72 :: x73 :: x74 :: x75 :: x76 :: x77 :: x78 :: u79 :: u80 :: u81 :: u82 :: u83 :: u84 :: u85 :: u86 :: u87 :: u88 :: u89 :: u90 :: u91 :: u92 :: u93 :: u94 :: u95 :: u96 :: u97 :: u98 :: u99 :: u100 :: u101 :: u102 :: u103 :: u104 :: u105 :: u106 :: u107 :: u108 :: u109 :: u110 :: u111 :: u112 :: u113 :: u114 :: u115 :: u116 :: u117 :: u118 :: u119 :: u120 :: u121 :: u122 :: u123 :: u124 :: u125 :: u126 :: u127 :: u128 :: u129 :: u130 :: u131 :: u132 :: u133 :: u134 :: u135 :: u136 :: u137 :: u138 :: u139 :: u140 :: u141 :: u142 :: u143 :: u144 :: u145 :: u146 :: u147 :: u148 :: u149 :: u150 :: u151 :: u152 :: u153 :: u154 :: u155 :: u156 :: u157 :: u158 :: u159 :: u160 :: u161 :: u162 :: u163 :: u164 :: u165 :: u166 :: u167 :: u168 :: u169 :: u170 :: u171 :: u172 :: u173 :: u174 :: u175 :: u176 :: u177 :: u178 :: u179 :: u180 :: u181 :: u182 :: u183 :: u184 :: u185 :: u186 :: u187 :: u188 :: u189 :: u190 :: u191 :: u192 :: u193 :: u194 :: u195 :: u196 :: u197 :: u198 :: u199 :: u200 :: u201 :: u202 :: u203 :: u204 :: u205 :: u206 :: u207 :: u208 :: u209 :: u210 :: u211 :: u212 :: u213 :: u214 :: u215 :: u216 :: u217 :: u218 :: u219 :: u220 :: u221 :: u222 :: u223 :: u224 :: u225 :: u226 :: u227 :: u228 :: u229 :: [])), []⟩ w') :
    Code.wp Try.prog (blkIn Try.f3 0) Q ⟨(List.toArray (u0 :: u1 :: u2 :: u3 :: u4 :: (.pointer (some ⟨rx, 0, none⟩)) :: u6 :: u7 :: u8 :: (.pointer (some ⟨z 1, 0, none⟩)) :: u10 :: u11 :: u12 :: u13 :: u14 :: u15 :: u16 :: u17 :: u18 :: u19 :: u20 :: u21 :: u22 :: u23 :: u24 :: u25 :: u26 :: u27 :: u28 :: u29 :: u30 :: u31 :: u32 :: u33 :: u34 :: u35 :: u36 :: u37 :: u38 :: u39 :: u40 :: u41 :: u42 :: u43 :: u44 :: u45 :: u46 :: u47 :: u48 :: u49 :: u50 :: u51 :: u52 :: u53 :: u54 :: u55 :: u56 :: u57 :: u58 :: u59 :: u60 :: u61 :: (.slice yA r.m yc) :: (.int .i64 (r.m : Int)) :: (.int .i64 0) :: u65 :: u66 :: u67 :: u68 :: u69 :: u70 :: u71 :: u72 :: u73 :: u74 :: u75 :: u76 :: u77 :: u78 :: u79 :: u80 :: u81 :: u82 :: u83 :: u84 :: u85 :: u86 :: u87 :: u88 :: u89 :: u90 :: u91 :: u92 :: u93 :: u94 :: u95 :: u96 :: u97 :: u98 :: u99 :: u100 :: u101 :: u102 :: u103 :: u104 :: u105 :: u106 :: u107 :: u108 :: u109 :: u110 :: u111 :: u112 :: u113 :: u114 :: u115 :: u116 :: u117 :: u118 :: u119 :: u120 :: u121 :: u122 :: u123 :: u124 :: u125 :: u126 :: u127 :: u128 :: u129 :: u130 :: u131 :: u132 :: u133 :: u134 :: u135 :: u136 :: u137 :: u138 :: u139 :: u140 :: u141 :: u142 :: u143 :: u144 :: u145 :: u146 :: u147 :: u148 :: u149 :: u150 :: u151 :: u152 :: u153 :: u154 :: u155 :: u156 :: u157 :: u158 :: u159 :: u160 :: u161 :: u162 :: u163 :: u164 :: u165 :: u166 :: u167 :: u168 :: u169 :: u170 :: u171 :: u172 :: u173 :: u174 :: u175 :: u176 :: u177 :: u178 :: u179 :: u180 :: u181 :: u182 :: u183 :: u184 :: u185 :: u186 :: u187 :: u188 :: u189 :: u190 :: u191 :: u192 :: u193 :: u194 :: u195 :: u196 :: u197 :: u198 :: u199 :: u200 :: u201 :: u202 :: u203 :: u204 :: u205 :: u206 :: u207 :: u208 :: u209 :: u210 :: u211 :: u212 :: u213 :: u214 :: u215 :: u216 :: u217 :: u218 :: u219 :: u220 :: u221 :: u222 :: u223 :: u224 :: u225 :: u226 :: u227 :: u228 :: u229 :: [])), []⟩ w := by
  (conv => arg 2; whnf)
  obtain ⟨i0, hi, hz0, hz1, hz2⟩ := info_parts infoWg
  go_wp2_with fail
  go_loopw [64] (fun i wr => ∃ (k : Nat) (v : Value), k ≤ r.m ∧ i = .int .i64 k ∧ Hid (LMx W wr s0 E0 rx qb r X bA dA vA xA bc dc vc tA tn tc C z f M yA Y k v)) (fun i _ => r.m - (intOf i).toNat)
  case atStart => exact ⟨0, v0, by omega, rfl, HL⟩
  case round =>
    clear HL
    obtain ⟨k, v, hk, rfl, HL⟩ := hrel
    obtain ⟨wo, rfl⟩ : ∃ wo, wo = wr := ⟨_, rfl⟩
    by_cases hlt : k < r.m
    · have hk0 : (0 : Int) ≤ (k : Int) := by omega
      have hkn : (k : Int) < ((r.m : Nat) : Int) := by omega
      have ek : IntKind.i64.wrap ((k : Int) + 1) = (k : Int) + 1 := IntWalk.i64_in _ (by omega)
      obtain ⟨yb, yo, hyA, hyl, c0⟩ := HL.out.yr k hlt
      have hp := HP.out.1 k hlt
      obtain ⟨j, hj⟩ := Int.eq_ofNat_of_zero_le hp.1
      have hjm : j < r.m := by omega
      have hjn : (j : Int) < ((r.m : Nat) : Int) := by omega
      have hj0 : (0 : Int) ≤ (j : Int) := by omega
      obtain ⟨vb, vo, hvA, hvl, d0, d1, d2, d3⟩ := HL.out.mb.row.v j hjm
      have e2 := HL.out.mb.at_.c2
      have m2 := HL.out.v3.c2
      have mf := HL.out.v3.f2
      have hv1 := HL.out.ow.lt
      have hml := HL.out.ml
      have hbd := HL.out.mb.bd
      have hz1' := HL.out.sp.zz 1 (by omega)
      have hzl := HL.out.v3.lt
      obtain ⟨y, hy'⟩ : ∃ y, y = r.V j := ⟨_, rfl⟩
      rw [← hy'] at d0 d1 d2 d3
      have HY := Lib.hid hy'
      have HJ := Lib.hid hj
      rw [hj] at c0
      subst hyA hvA
      clear hp hj hy'
      have HOW := Lib.hid HL.out.ow
      go_upto_region 12 with fail
      refine wp_region_noPanic ?_
      go_region_law (first | (refine step_append_lies _ (by rfl) (.tmp 69) (.tmp 75) 25 (by rfl) M 35 i0 (.agg #[.int .i64 0, .int .i64 0, .int .i64 0, .int .i64 0]) 4 32 wgs_under hi hz0 hz1 hz2 (by rfl) (by decide) v k (rowC wgC (mixV r Y) k) (by rfl) ((owns_later HOW.out (show Below wo.heap.size wo wo.drew from (Below.refl _ wo).drew)).alloc _) ⟨wo.heap.size, 0, none⟩ 1 1 (wgC y) (by rfl) rfl (fun jj uu hjj => new_cells (w := wo.drew) (t := 35) (cs := wgC y) jj uu hjj) (wgC_one y) (by omega) (by unfold maxLen; omega) (by omega) (by (first | omega | (simp only [World.size_alloc, World.size_drew]; omega) | (simp; done) | (simp; omega))) (wo.heap.size + 1) (by simp) ?_; intro g cap w6 hown6 hgr6 hat6 hlt6; have s6 : w6.heap[z 1]? = wo.heap[z 1]? := (hgr6.block _ (by (first | omega | (simp only [World.size_alloc, World.size_drew]; omega) | (simp; done) | (simp; omega))) (fun e => by have := (hv1 _ e.symm).1; omega)).trans (Below.heap_alloc _ _ _ (by (first | omega | (simp only [World.size_alloc, World.size_drew]; omega) | (simp; done) | (simp; omega)))); have a6 := cell_same s6 m2; have b6 := fro_same s6 mf) | fail)
      all_goals
        have HL9 : Hid (LMx W (w6.setCell ⟨z 1, 2, none⟩ (.slice (some ⟨g, 0, none⟩) (k + 1) cap)) s0 E0 rx qb r X bA dA (some ⟨vb, vo, none⟩) xA bc dc vc tA tn tc C z f M (some ⟨yb, yo, none⟩) Y (k + 1) (.slice (some ⟨g, 0, none⟩) (k + 1) cap)) := Lib.hid (by
          refine LMx.app (w := wo.drew) (HL.out.drew) (hy (by omega)) ?_ hgr6 (by simpa using hat6)
          have e : r.V (Y k).toNat = y := by rw [HJ.out, HY.out, Int.toNat_natCast]
          rw [e]
          exact hown6)
        refine NoPanic.normal ?_
        clear hown6 hgr6 hat6 hlt6 s6 a6 b6 c0 d0 d1 d2 d3 e2 m2 mf hv1
        go_wp2_with fail
        go_roundw
        case rel => exact ⟨k + 1, _, by omega, by go_num, HL9⟩
        case measure => simp [intOf]; omega
    · obtain rfl : k = r.m := by omega
      have hge : ¬ ((r.m : Nat) : Int) < ((r.m : Nat) : Int) := by omega
      go_wp2_with fail
      all_goals exact ⟨_, HL⟩
end Go.Proofs.Ytnnikeolgknfoaa
