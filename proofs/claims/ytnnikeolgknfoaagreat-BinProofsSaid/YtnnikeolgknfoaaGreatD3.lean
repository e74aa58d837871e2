/- awake: the walk. (Written by gen_awake.py.) -/
import Derived.Test.YtnnikeolgknfoaaGreatD2
import Derived.Test.YtnnikeolgknfoaaGreatBz
import Derived.Test.YtnnikeolgknfoaaGreatC5
import Derived.Test.YtnnikeolgknfoaaGreatC6
import Derived.Test.YtnnikeolgknfoaaGreatCq
set_option linter.unusedSimpArgs false
set_option linter.unusedVariables false
namespace Go.Proofs.YtnnikeolgknfoaaGreat
open Go.RowKit Go.Shelf

theorem rw3_until : rw3.untilS 2 1 30 = ⟨2, 3⟩ ∧ rw3.untilErr 2 1 30 = 0 := by decide +kernel
def ch3 : Nat → Int := fun k => match k with | 0 => 3 | 1 => 1 | _ => 0
theorem rw3_exp : rw3.expR 2 3 ch3 Sp.a = (5, 1) ∧ rw3.expR 2 3 ch3 Sp.b = (15, 2) ∧ rw3.expErr 2 3 ch3 = 0 := by decide +kernel
theorem rt3_clash : rt3.clashL = [0, 1] ∧ rt3.clashErr = 0 := by decide +kernel
theorem rt3_few : rt3.fewL = [0] := by decide +kernel
theorem rt3_contra : rt3.contraR 4 wt3 = (true, 0) := by decide +kernel
/-- two numbers in memory -/
def N2c (w : World) (b : Nat) (x y : Int) : Prop := w.cell? ⟨b, 0, none⟩ = some (.int .i64 x) ∧ w.cell? ⟨b, 1, none⟩ = some (.int .i64 y)
theorem N2c.later {w w' : World} {b : Nat} {x y : Int} (h : N2c w b x y) (hb : Below w.heap.size w w') : N2c w' b x y := ⟨Kb hb h.1, Kb hb h.2⟩
theorem SpRow.later {w w' : World} {A : Option Addr} {n : Nat} {X : Nat → Sp} (h : SpRow w w.heap.size A n X) (hb : Below w.heap.size w w') : SpRow w' w'.heap.size A n X := (h.below hb).mono hb.size
theorem IntRow.later {w w' : World} {A : Option Addr} {n : Nat} {X : Nat → Int} (h : IntRow w w.heap.size A n X) (hb : Below w.heap.size w w') : IntRow w' w'.heap.size A n X := (h.below hb).mono hb.size
theorem RwRow.on {w w' : World} {r : Rw} {bA : Option Addr} {bc : Nat} {dA : Option Addr} {dc : Nat} {vA : Option Addr} {vc : Nat} (h : RwRow w w.heap.size r bA bc dA dc vA vc) (hb : Below w.heap.size w w') : RwRow w' w'.heap.size r bA bc dA dc vA vc := (h.later hb).up hb.size (Nat.le_refl _)
def spL (l : List Sp) (k : Nat) : Sp := l.getD k ⟨0, 0⟩
def itL (l : List Int) (k : Nat) : Int := l.getD k 0
theorem sprow3 {W : World} {a b c d e f : Int} {g : Nat} (h : W.cell? ⟨g, 0, none⟩ = some (.int .i64 a) ∧ W.cell? ⟨g, 1, none⟩ = some (.int .i64 b) ∧ W.cell? ⟨g, 2, none⟩ = some (.int .i64 c) ∧ W.cell? ⟨g, 3, none⟩ = some (.int .i64 d) ∧ W.cell? ⟨g, 4, none⟩ = some (.int .i64 e) ∧ W.cell? ⟨g, 5, none⟩ = some (.int .i64 f)) :
    SpRow W W.heap.size (some ⟨g, 0, none⟩) 3 (spL [⟨a, b⟩, ⟨c, d⟩, ⟨e, f⟩]) := fun k hk => by
  refine ⟨g, 0, rfl, World.block_lt_of_cell? W _ h.1, ?_⟩
  match k, hk with
  | 0, _ => exact ⟨h.1, h.2.1⟩
  | 1, _ => exact ⟨h.2.2.1, h.2.2.2.1⟩
  | 2, _ => exact ⟨h.2.2.2.2.1, h.2.2.2.2.2⟩
  | k + 3, h => exact absurd h (by omega)
theorem itrow2 {W : World} {a b : Int} {g : Nat} (h : W.cell? ⟨g, 0, none⟩ = some (.int .i64 a) ∧ W.cell? ⟨g, 1, none⟩ = some (.int .i64 b)) : IntRow W W.heap.size (some ⟨g, 0, none⟩) 2 (itL [a, b]) := fun k hk => by
  refine ⟨g, 0, rfl, World.block_lt_of_cell? W _ h.1, ?_⟩
  match k, hk with
  | 0, _ => exact h.1
  | 1, _ => exact h.2
  | k + 2, h => exact absurd h (by omega)
theorem itrow1 {W : World} {a : Int} {g : Nat} (h : W.cell? ⟨g, 0, none⟩ = some (.int .i64 a)) : IntRow W W.heap.size (some ⟨g, 0, none⟩) 1 (itL [a]) := fun k hk => by
  refine ⟨g, 0, rfl, World.block_lt_of_cell? W _ h, ?_⟩
  match k, hk with
  | 0, _ => exact h
  | k + 1, h => exact absurd h (by omega)
theorem chrow3 {W : World} {g : Nat} (h : W.cell? ⟨g, 0, none⟩ = some (.int .i64 3) ∧ W.cell? ⟨g, 1, none⟩ = some (.int .i64 1) ∧ W.cell? ⟨g, 2, none⟩ = some (.int .i64 0)) : IntRow W W.heap.size (some ⟨g, 0, none⟩) 3 ch3 := fun k hk => by
  refine ⟨g, 0, rfl, World.block_lt_of_cell? W _ h.1, ?_⟩
  match k, hk with
  | 0, _ => exact h.1
  | 1, _ => exact h.2.1
  | 2, _ => exact h.2.2
  | k + 3, h => exact absurd h (by omega)
theorem wkrow {W : World} {g : Nat} (h : (W.cell? ⟨g, 0, none⟩ = some (.bool true) ∧ W.cell? ⟨g, 1, none⟩ = some (.int .i64 0) ∧ W.cell? ⟨g, 2, none⟩ = some (.bool true)) ∧ W.cell? ⟨g, 3, none⟩ = some (.bool false) ∧ W.cell? ⟨g, 4, none⟩ = some (.int .i64 1) ∧ W.cell? ⟨g, 5, none⟩ = some (.bool false)) : FcRow W W.heap.size (some ⟨g, 0, none⟩) 2 wk3 := fun k hk => by
  refine ⟨g, 0, rfl, World.block_lt_of_cell? W _ h.1.1, ?_⟩
  match k, hk with
  | 0, _ => exact h.1
  | 1, _ => exact h.2
  | k + 2, h => exact absurd h (by omega)
theorem wtrow {W : World} {g : Nat} (h : (W.cell? ⟨g, 0, none⟩ = some (.bool false) ∧ W.cell? ⟨g, 1, none⟩ = some (.int .i64 0) ∧ W.cell? ⟨g, 2, none⟩ = some (.bool false)) ∧ (W.cell? ⟨g, 3, none⟩ = some (.bool true) ∧ W.cell? ⟨g, 4, none⟩ = some (.int .i64 0) ∧ W.cell? ⟨g, 5, none⟩ = some (.bool true)) ∧ (W.cell? ⟨g, 6, none⟩ = some (.bool false) ∧ W.cell? ⟨g, 7, none⟩ = some (.int .i64 2) ∧ W.cell? ⟨g, 8, none⟩ = some (.bool true)) ∧ W.cell? ⟨g, 9, none⟩ = some (.bool true) ∧ W.cell? ⟨g, 10, none⟩ = some (.int .i64 1) ∧ W.cell? ⟨g, 11, none⟩ = some (.bool false)) : FcRow W W.heap.size (some ⟨g, 0, none⟩) 4 wt3 := fun k hk => by
  refine ⟨g, 0, rfl, World.block_lt_of_cell? W _ h.1.1, ?_⟩
  match k, hk with
  | 0, _ => exact h.1
  | 1, _ => exact h.2.1
  | 2, _ => exact h.2.2.1
  | 3, _ => exact h.2.2.2
  | k + 4, h => exact absurd h (by omega)
theorem sps_of {n : Nat} {X : Nat → Sp} {er : Int} {W W' : World} {e : Ending} (h : SpsPost n X er W e W') (he : er = 0) : ∃ A c, e = .returned (.tuple #[.slice A n c, .int .i64 0]) ∧ SpRow W' W'.heap.size A n X ∧ n ≤ c ∧ Below W.heap.size W W' := by
  rcases h with ⟨_, v, rfl, ho, hb⟩ | ⟨h, _⟩
  · obtain ⟨A, c, rfl, hr, hc⟩ := OwnSp.of ho
    exact ⟨A, c, rfl, hr.row, hc, hb⟩
  · exact absurd he h
theorem nat_of {l : List Nat} {er : Int} {W W' : World} {e : Ending} (h : NatPost l er W e W') (he : er = 0) : ∃ A c, e = .returned (.tuple #[.slice A l.length c, .int .i64 0]) ∧ IntRow W' W'.heap.size A l.length (numOf l) ∧ Below W.heap.size W W' := by
  rcases h with ⟨_, v, rfl, ho, hb⟩ | ⟨h, _⟩
  · obtain ⟨A, c, rfl, hr, hc⟩ := natOwn ho
    exact ⟨A, c, rfl, hr, hb⟩
  · exact absurd he h

theorem sameBn {w w' : World} {B B' b o n : Nat} {P : Nat → Bn} (h : BnRow w B (some ⟨b, o, none⟩) n P) (hs : w'.heap[b]? = w.heap[b]?) (hB : B ≤ B') : BnRow w' B' (some ⟨b, o, none⟩) n P := fun k hk => by
  obtain ⟨b', o', hA, hl, c0, c1, c2, c3, c4, c5, c6⟩ := h k hk
  injection hA with hA
  injection hA with h1 h2
  subst h1 h2
  exact ⟨b, o, rfl, by omega, cell_same hs c0, cell_same hs c1, cell_same hs c2, cell_same hs c3, cell_same hs c4, cell_same hs c5, cell_same hs c6⟩
theorem sameInt {w w' : World} {B B' b o n : Nat} {P : Nat → Int} (h : IntRow w B (some ⟨b, o, none⟩) n P) (hs : w'.heap[b]? = w.heap[b]?) (hB : B ≤ B') : IntRow w' B' (some ⟨b, o, none⟩) n P := fun k hk => by
  obtain ⟨b', o', hA, hl, c0⟩ := h k hk
  injection hA with hA
  injection hA with h1 h2
  subst h1 h2
  exact ⟨b, o, rfl, by omega, cell_same hs c0⟩
theorem keep_blk {wg w8 : World} {o : Obj} {v t : Nat} {u : Option Nat} (h : (wg.alloc o).grownBy w8 u) (hu : u = some v) (hs : t < wg.heap.size) (hn : t ≠ v) : w8.heap[t]? = wg.heap[t]? :=
  (h.block t (by simp; omega) (fun e => by rw [hu] at e; injection e with e; exact hn e)).trans (Below.heap_alloc _ _ _ hs)
theorem keep_cell {wg w8 : World} {o : Obj} {v t j n c : Nat} {x : Value} (h : (wg.alloc o).grownBy w8 (Value.slice (some ⟨v, 0, none⟩) n c).ownBlock) (hs : t < wg.heap.size) (hn : t ≠ v) (hc : wg.cell? ⟨t, j, none⟩ = some x) : w8.cell? ⟨t, j, none⟩ = some x := cell_same (keep_blk h rfl hs hn) hc
theorem keep_fro {wg w8 : World} {o : Obj} {v t j n c : Nat} (h : (wg.alloc o).grownBy w8 (Value.slice (some ⟨v, 0, none⟩) n c).ownBlock) (hs : t < wg.heap.size) (hn : t ≠ v) (hc : wg.frozen? ⟨t, j, none⟩ = false) : w8.frozen? ⟨t, j, none⟩ = false := fro_same (keep_blk h rfl hs hn) hc
/-- a row's box -/
def Bx3 (w : World) (t : Nat) (x y z : Value) : Prop := w.cell? ⟨t, 0, none⟩ = some x ∧ w.cell? ⟨t, 1, none⟩ = some y ∧ w.cell? ⟨t, 2, none⟩ = some z
theorem Bx3.later {w w' : World} {t : Nat} {x y z : Value} (h : Bx3 w t x y z) (hb : Below w.heap.size w w') : Bx3 w' t x y z := ⟨Kb hb h.1, Kb hb h.2.1, Kb hb h.2.2⟩
abbrev tv (b d v : Nat) : Value := rwV (some ⟨b, 0, none⟩) 3 3 (some ⟨d, 0, none⟩) 3 3 (some ⟨v, 0, none⟩) 1 1
def Th (w : World) (b d v : Nat) : Prop := RwRow w w.heap.size rw3 (some ⟨b, 0, none⟩) 3 (some ⟨d, 0, none⟩) 3 (some ⟨v, 0, none⟩) 1
theorem Th.later {w w' : World} {b d v : Nat} (h : Th w b d v) (hb : Below w.heap.size w w') : Th w' b d v := RwRow.on h hb
theorem spans3 (b d v : Nat) (W : World) (h : Th W b d v) : Calls Tryz.prog 50 #[tv b d v] W fun e W' => ∃ A c, e = .returned (.tuple #[.slice A 3 c, .int .i64 0]) ∧ SpRow W' W'.heap.size A 3 rw3.sp ∧ Below W.heap.size W W' :=
  (Spans_any rw3 _ _ _ 3 3 1 W h).mono (fun e W' h => by obtain ⟨A, c, e, hr, _, hb⟩ := sps_of h rw3_check; exact ⟨A, c, e, hr, hb⟩)
theorem holds3 (b d v : Nat) (W : World) (h : Th W b d v) : Calls Tryz.prog 35 #[tv b d v] W fun e W' => ∃ A c, e = .returned (.tuple #[.slice A 3 c, .int .i64 0]) ∧ SpRow W' W'.heap.size A 3 (fun k => rw3.span k k) ∧ Below W.heap.size W W' :=
  (Holds_any rw3 _ _ _ 3 3 1 W h).mono (fun e W' h => by obtain ⟨A, c, e, hr, _, hb⟩ := sps_of h rw3_fit; exact ⟨A, c, e, hr, hb⟩)
theorem sum3 (b d v : Nat) (W : World) (h : Th W b d v) : Calls Tryz.prog 31 #[tv b d v, .int .i64 0, .int .i64 2] W fun e W' => e = .returned (.tuple #[.agg #[.int .i64 64, .int .i64 76], .int .i64 0]) ∧ Below W.heap.size W W' := by
  have h := Sum_any rw3 0 2 _ _ _ 3 3 1 W h
  rw [rw3_sum.1, rw3_sum.2] at h
  exact h
theorem shows3 (b d v : Nat) (W : World) (h : Th W b d v) (g : Nat) (hw : (W.cell? ⟨g, 0, none⟩ = some (.bool true) ∧ W.cell? ⟨g, 1, none⟩ = some (.int .i64 0) ∧ W.cell? ⟨g, 2, none⟩ = some (.bool true)) ∧ W.cell? ⟨g, 3, none⟩ = some (.bool false) ∧ W.cell? ⟨g, 4, none⟩ = some (.int .i64 1) ∧ W.cell? ⟨g, 5, none⟩ = some (.bool false)) : Calls Tryz.prog 39 #[tv b d v, .int .i64 0, .int .i64 0, .bool true, .slice (some ⟨g, 0, none⟩) 2 2] W fun e W' => e = .returned (.tuple #[.int .i64 54, .int .i64 0]) ∧ Below W.heap.size W W' := by
  have h := Shows_any rw3 0 0 true _ 2 2 wk3 _ _ _ 3 3 1 W h (wkrow hw) (by decide)
  rw [rw3_shows] at h
  exact h
theorem next3 (b d v : Nat) (W : World) (h : Th W b d v) : Calls Tryz.prog 29 #[tv b d v] W fun e W' => e = .returned (.tuple #[.int .i64 0, .int .i64 0, .int .i64 12, .int .i64 0]) ∧ Below W.heap.size W W' := by
  have h := Next_any rw3 _ _ _ 3 3 1 W h
  rw [rw3_next, rw3_fit] at h
  exact h
theorem until3 (b d v : Nat) (W : World) (h : Th W b d v) : Calls Tryz.prog 24 #[tv b d v, .int .i64 2, .int .i64 1, .int .i64 30] W fun e W' => e = .returned (.tuple #[.agg #[.int .i64 2, .int .i64 3], .int .i64 0]) ∧ Below W.heap.size W W' := by
  have h := Until_any rw3 2 1 30 _ _ _ 3 3 1 W h
  rw [rw3_until.1, rw3_until.2] at h
  exact h
theorem expect3 (b d v : Nat) (W : World) (h : Th W b d v) (g : Nat) (hw : W.cell? ⟨g, 0, none⟩ = some (.int .i64 3) ∧ W.cell? ⟨g, 1, none⟩ = some (.int .i64 1) ∧ W.cell? ⟨g, 2, none⟩ = some (.int .i64 0)) : Calls Tryz.prog 22 #[tv b d v, .int .i64 2, .slice (some ⟨g, 0, none⟩) 3 3] W fun e W' => e = .returned (.tuple #[.agg #[.int .i64 5, .int .i64 1], .agg #[.int .i64 15, .int .i64 2], .int .i64 0]) ∧ Below W.heap.size W W' := by
  have h := Expect_any rw3 2 3 ch3 _ 3 (by decide) _ _ _ 3 3 1 W h (chrow3 hw)
  rw [rw3_exp.1, rw3_exp.2.1, rw3_exp.2.2] at h
  exact h
/-- the torn row -/
abbrev tw (b d : Nat) (v : Option Addr) (c : Nat) : Value := rwV (some ⟨b, 0, none⟩) 3 3 (some ⟨d, 0, none⟩) 3 3 v 2 c
def Tw (w : World) (b d : Nat) (v : Option Addr) (c : Nat) : Prop := RwRow w w.heap.size rt3 (some ⟨b, 0, none⟩) 3 (some ⟨d, 0, none⟩) 3 v c
theorem Tw.later {w w' : World} {b d c : Nat} {v : Option Addr} (h : Tw w b d v c) (hb : Below w.heap.size w w') : Tw w' b d v c := RwRow.on h hb
theorem alikeS (A : Option Addr) (c g : Nat) (W : World) (h : SpRow W W.heap.size A 3 rw3.sp) (hl : W.cell? ⟨g, 0, none⟩ = some (.int .i64 30) ∧ W.cell? ⟨g, 1, none⟩ = some (.int .i64 60) ∧ W.cell? ⟨g, 2, none⟩ = some (.int .i64 10) ∧ W.cell? ⟨g, 3, none⟩ = some (.int .i64 70) ∧ W.cell? ⟨g, 4, none⟩ = some (.int .i64 8) ∧ W.cell? ⟨g, 5, none⟩ = some (.int .i64 12)) : Calls Tryz.prog 37 #[.slice A 3 c, .slice (some ⟨g, 0, none⟩) 3 3] W fun e W' => e = .returned (.bool true) ∧ Below W.heap.size W W' := by
  have h := alike_sp A _ 3 3 c 3 rw3.sp (spL [⟨30, 60⟩, ⟨10, 70⟩, ⟨8, 12⟩]) W h (sprow3 hl) (by decide)
  rw [show (decide (3 = 3) && allN (fun k => spEq (rw3.sp k) (spL [⟨30, 60⟩, ⟨10, 70⟩, ⟨8, 12⟩] k)) 3) = true by decide +kernel] at h
  exact h
theorem alikeH (A : Option Addr) (c g : Nat) (W : World) (h : SpRow W W.heap.size A 3 (fun k => rw3.span k k)) (hl : W.cell? ⟨g, 0, none⟩ = some (.int .i64 30) ∧ W.cell? ⟨g, 1, none⟩ = some (.int .i64 54) ∧ W.cell? ⟨g, 2, none⟩ = some (.int .i64 10) ∧ W.cell? ⟨g, 3, none⟩ = some (.int .i64 34) ∧ W.cell? ⟨g, 4, none⟩ = some (.int .i64 8) ∧ W.cell? ⟨g, 5, none⟩ = some (.int .i64 12)) : Calls Tryz.prog 37 #[.slice A 3 c, .slice (some ⟨g, 0, none⟩) 3 3] W fun e W' => e = .returned (.bool true) ∧ Below W.heap.size W W' := by
  have h := alike_sp A _ 3 3 c 3 (fun k => rw3.span k k) (spL [⟨30, 54⟩, ⟨10, 34⟩, ⟨8, 12⟩]) W h (sprow3 hl) (by decide)
  rw [show (decide (3 = 3) && allN (fun k => spEq ((fun k => rw3.span k k) k) (spL [⟨30, 54⟩, ⟨10, 34⟩, ⟨8, 12⟩] k)) 3) = true by decide +kernel] at h
  exact h
theorem alikeC (A : Option Addr) (c g : Nat) (W : World) (h : IntRow W W.heap.size A 2 (itL [0, 1])) (hl : W.cell? ⟨g, 0, none⟩ = some (.int .i64 0) ∧ W.cell? ⟨g, 1, none⟩ = some (.int .i64 1)) : Calls Tryz.prog 17 #[.slice A 2 c, .slice (some ⟨g, 0, none⟩) 2 2] W fun e W' => e = .returned (.bool true) ∧ Below W.heap.size W W' := by
  have h := alike_int A _ 2 2 c 2 (itL [0, 1]) (itL [0, 1]) W h (itrow2 hl) (by decide)
  rw [show (decide (2 = 2) && allN (fun k => decide (itL [0, 1] k = itL [0, 1] k)) 2) = true by decide +kernel] at h
  exact h
theorem alikeF (A : Option Addr) (c g : Nat) (W : World) (h : IntRow W W.heap.size A 1 (itL [0])) (hl : W.cell? ⟨g, 0, none⟩ = some (.int .i64 0)) : Calls Tryz.prog 17 #[.slice A 1 c, .slice (some ⟨g, 0, none⟩) 1 1] W fun e W' => e = .returned (.bool true) ∧ Below W.heap.size W W' := by
  have h := alike_int A _ 1 1 c 1 (itL [0]) (itL [0]) W h (itrow1 hl) (by decide)
  rw [show (decide (1 = 1) && allN (fun k => decide (itL [0] k = itL [0] k)) 1) = true by decide +kernel] at h
  exact h
theorem clash3 (b d c : Nat) (v : Option Addr) (W : World) (h : Tw W b d v c) : Calls Tryz.prog 15 #[tw b d v c] W fun e W' => ∃ A c, e = .returned (.tuple #[.slice A 2 c, .int .i64 0]) ∧ IntRow W' W'.heap.size A 2 (itL [0, 1]) ∧ Below W.heap.size W W' :=
  (Clash_any rt3 _ _ _ 3 3 c W h).mono (fun e W' h => by
    obtain ⟨A, c, e, hr, hb⟩ := nat_of h rt3_clash.2
    rw [rt3_clash.1] at e hr
    refine ⟨A, c, e, fun k hk => ?_, hb⟩
    obtain ⟨b', o', h1, h2, h3⟩ := hr k hk
    refine ⟨b', o', h1, h2, h3.trans ?_⟩
    match k, hk with
    | 0, _ => rfl
    | 1, _ => rfl
    | k + 2, h => exact absurd h (by omega))
theorem few3 (b d c : Nat) (v : Option Addr) (W : World) (h : Tw W b d v c) : Calls Tryz.prog 18 #[tw b d v c] W fun e W' => ∃ A c, e = .returned (.tuple #[.slice A 1 c, .int .i64 0]) ∧ IntRow W' W'.heap.size A 1 (itL [0]) ∧ Below W.heap.size W W' :=
  (Fewest_any rt3 _ _ _ 3 3 c W h).mono (fun e W' h => by
    obtain ⟨A, c, e, hr, hb⟩ := nat_of h rt3_check
    rw [rt3_few] at e hr
    refine ⟨A, c, e, fun k hk => ?_, hb⟩
    obtain ⟨b', o', h1, h2, h3⟩ := hr k hk
    refine ⟨b', o', h1, h2, h3.trans ?_⟩
    match k, hk with
    | 0, _ => rfl
    | k + 1, h => exact absurd h (by omega))
theorem contra3 (b d c : Nat) (v : Option Addr) (W : World) (h : Tw W b d v c) (g : Nat) (hw : (W.cell? ⟨g, 0, none⟩ = some (.bool false) ∧ W.cell? ⟨g, 1, none⟩ = some (.int .i64 0) ∧ W.cell? ⟨g, 2, none⟩ = some (.bool false)) ∧ (W.cell? ⟨g, 3, none⟩ = some (.bool true) ∧ W.cell? ⟨g, 4, none⟩ = some (.int .i64 0) ∧ W.cell? ⟨g, 5, none⟩ = some (.bool true)) ∧ (W.cell? ⟨g, 6, none⟩ = some (.bool false) ∧ W.cell? ⟨g, 7, none⟩ = some (.int .i64 2) ∧ W.cell? ⟨g, 8, none⟩ = some (.bool true)) ∧ W.cell? ⟨g, 9, none⟩ = some (.bool true) ∧ W.cell? ⟨g, 10, none⟩ = some (.int .i64 1) ∧ W.cell? ⟨g, 11, none⟩ = some (.bool false)) : Calls Tryz.prog 43 #[tw b d v c, .slice (some ⟨g, 0, none⟩) 4 4] W fun e W' => e = .returned (.tuple #[.bool true, .int .i64 0]) ∧ Below W.heap.size W W' := by
  have h := Contradicts_any rt3 _ 4 4 wt3 _ _ _ 3 3 c W h (wtrow hw) (by decide)
  rw [rt3_contra] at h
  exact h

set_option maxRecDepth 100000 in
set_option maxHeartbeats 8000000 in
theorem awake_any (W : World) : Calls Tryz.prog 12 #[] W fun e W' => e = .returned (.bool true) ∧ Below W.heap.size W W' := by
  go_enter Tryz.func12, Tryz.ntmps12
  go_wp2_with fail
  refine (Three_any _).mono ?_
  rintro e w1 ⟨b, d, v, rfl, hr, ho, hbv, hb⟩
  have hx : Below W.heap.size W w1 := (by repeat (first | (with_reducible first | exact Below.refl _ _ | refine Below.drew ?_ | refine below_drewN ?_ _) | ((with_reducible first | refine Lc ?_ ?_ _ | refine Ls ?_ ?_ _ | refine Lv (by assumption) ?_ ?_); · first | exact Nat.le_refl _ | omega | (simp; done) | (simp; omega) | (simp at *; omega))))
  have g := Lib.hid hx
  have z := g.out.size
  have R := Lib.hid (show Th _ b d v from hr)
  clear hr ho hbv
  clear hb hx
  go_wp2_with fail
  refine (spans3 b d v _ (R.out.later (by repeat (first | (with_reducible first | exact Below.refl _ _ | refine Below.drew ?_ | refine below_drewN ?_ _) | ((with_reducible first | refine Lc ?_ ?_ _ | refine Ls ?_ ?_ _ | refine Lv (by assumption) ?_ ?_); · first | exact Nat.le_refl _ | omega | (simp; done) | (simp; omega) | (simp at *; omega)))))).mono ?_
  rintro e w2 ⟨sA, sc, rfl, hq, hb⟩
  have hx : Below w1.heap.size w1 w2 := (by repeat (first | (with_reducible first | exact Below.refl _ _ | refine Below.drew ?_ | refine below_drewN ?_ _) | ((with_reducible first | refine Lc ?_ ?_ _ | refine Ls ?_ ?_ _ | refine Lv (by assumption) ?_ ?_); · first | exact Nat.le_refl _ | omega | (simp; done) | (simp; omega) | (simp at *; omega))))
  replace g := Lib.hid (g.out.trans (hx.mono z))
  replace z := g.out.size
  have S := Lib.hid hq
  clear hq R
  clear hb hx
  go_wp2_with fail
  refine (Three_any _).mono ?_
  rintro e w3 ⟨b, d, v, rfl, hr, ho, hbv, hb⟩
  have hx : Below w2.heap.size w2 w3 := (by repeat (first | (with_reducible first | exact Below.refl _ _ | refine Below.drew ?_ | refine below_drewN ?_ _) | ((with_reducible first | refine Lc ?_ ?_ _ | refine Ls ?_ ?_ _ | refine Lv (by assumption) ?_ ?_); · first | exact Nat.le_refl _ | omega | (simp; done) | (simp; omega) | (simp at *; omega))))
  replace S := Lib.hid (S.out.later hx)
  replace g := Lib.hid (g.out.trans (hx.mono z))
  replace z := g.out.size
  have R := Lib.hid (show Th _ b d v from hr)
  clear hr ho hbv
  clear hb hx
  go_wp2_with fail
  refine (holds3 b d v _ (R.out.later (by repeat (first | (with_reducible first | exact Below.refl _ _ | refine Below.drew ?_ | refine below_drewN ?_ _) | ((with_reducible first | refine Lc ?_ ?_ _ | refine Ls ?_ ?_ _ | refine Lv (by assumption) ?_ ?_); · first | exact Nat.le_refl _ | omega | (simp; done) | (simp; omega) | (simp at *; omega)))))).mono ?_
  rintro e w4 ⟨hA, hc, rfl, hq, hb⟩
  have hx : Below w3.heap.size w3 w4 := (by repeat (first | (with_reducible first | exact Below.refl _ _ | refine Below.drew ?_ | refine below_drewN ?_ _) | ((with_reducible first | refine Lc ?_ ?_ _ | refine Ls ?_ ?_ _ | refine Lv (by assumption) ?_ ?_); · first | exact Nat.le_refl _ | omega | (simp; done) | (simp; omega) | (simp at *; omega))))
  replace S := Lib.hid (S.out.later hx)
  replace g := Lib.hid (g.out.trans (hx.mono z))
  replace z := g.out.size
  have H := Lib.hid hq
  clear hq R
  clear hb hx
  go_wp2_with fail
  refine (Three_any _).mono ?_
  rintro e w5 ⟨b, d, v, rfl, hr, ho, hbv, hb⟩
  have hx : Below w4.heap.size w4 w5 := (by repeat (first | (with_reducible first | exact Below.refl _ _ | refine Below.drew ?_ | refine below_drewN ?_ _) | ((with_reducible first | refine Lc ?_ ?_ _ | refine Ls ?_ ?_ _ | refine Lv (by assumption) ?_ ?_); · first | exact Nat.le_refl _ | omega | (simp; done) | (simp; omega) | (simp at *; omega))))
  replace S := Lib.hid (S.out.later hx)
  replace H := Lib.hid (H.out.later hx)
  replace g := Lib.hid (g.out.trans (hx.mono z))
  replace z := g.out.size
  have R := Lib.hid (show Th _ b d v from hr)
  clear hr ho hbv
  clear hb hx
  go_wp2_with fail
  refine (sum3 b d v _ (R.out.later (by repeat (first | (with_reducible first | exact Below.refl _ _ | refine Below.drew ?_ | refine below_drewN ?_ _) | ((with_reducible first | refine Lc ?_ ?_ _ | refine Ls ?_ ?_ _ | refine Lv (by assumption) ?_ ?_); · first | exact Nat.le_refl _ | omega | (simp; done) | (simp; omega) | (simp at *; omega)))))).mono ?_
  rintro e w6 ⟨rfl, hb⟩
  have hx : Below w5.heap.size w5 w6 := (by repeat (first | (with_reducible first | exact Below.refl _ _ | refine Below.drew ?_ | refine below_drewN ?_ _) | ((with_reducible first | refine Lc ?_ ?_ _ | refine Ls ?_ ?_ _ | refine Lv (by assumption) ?_ ?_); · first | exact Nat.le_refl _ | omega | (simp; done) | (simp; omega) | (simp at *; omega))))
  replace S := Lib.hid (S.out.later hx)
  replace H := Lib.hid (H.out.later hx)
  replace g := Lib.hid (g.out.trans (hx.mono z))
  replace z := g.out.size
  clear R
  clear hb hx
  go_wp2_with fail
  have A1 := Lib.hid (show N2c (w6.alloc (.cells #[.int .i64 64, .int .i64 76] 49)) w6.heap.size 64 76 from (by (repeat' refine And.intro ?_ ?_) <;> (repeat (first | with_reducible assumption | (simp; done) | (with_reducible first | refine Kd ?_ | refine Kn ?_ | refine Kb (by assumption) ?_) | ((with_reducible first | refine Kw ?_ ?_ | refine Fw ?_) <;> first | with_reducible rfl | (simp; done)) | (with_reducible first | refine Ka _ ?_ | refine Ks _ (by first | exact Nat.le_refl _ | omega | (simp; done) | (simp; omega)) ?_ | refine Fd ?_ | refine Fn ?_ | refine Fb (by assumption) (by first | exact Nat.le_refl _ | omega | (simp; done) | (simp; omega)) ?_ | refine Fa _ (by first | exact Nat.le_refl _ | omega | (simp; done) | (simp; omega)) ?_ | refine Fs _ ?_)))))
  refine (Three_any _).mono ?_
  rintro e w7 ⟨b, d, v, rfl, hr, ho, hbv, hb⟩
  have hx : Below w6.heap.size w6 w7 := (by repeat (first | (with_reducible first | exact Below.refl _ _ | refine Below.drew ?_ | refine below_drewN ?_ _) | ((with_reducible first | refine Lc ?_ ?_ _ | refine Ls ?_ ?_ _ | refine Lv (by assumption) ?_ ?_); · first | exact Nat.le_refl _ | omega | (simp; done) | (simp; omega) | (simp at *; omega))))
  replace A1 := Lib.hid (A1.out.later hb)
  replace S := Lib.hid (S.out.later hx)
  replace H := Lib.hid (H.out.later hx)
  replace g := Lib.hid (g.out.trans (hx.mono z))
  replace z := g.out.size
  have R := Lib.hid (show Th _ b d v from hr)
  clear hr ho hbv hb hx
  go_wp2_with fail
  refine (shows3 b d v _ (R.out.later (by repeat (first | (with_reducible first | exact Below.refl _ _ | refine Below.drew ?_ | refine below_drewN ?_ _) | ((with_reducible first | refine Lc ?_ ?_ _ | refine Ls ?_ ?_ _ | refine Lv (by assumption) ?_ ?_); · first | exact Nat.le_refl _ | omega | (simp; done) | (simp; omega) | (simp at *; omega))))) w7.heap.size (by (repeat' refine And.intro ?_ ?_) <;> (repeat (first | with_reducible assumption | (simp; done) | (with_reducible first | refine Kd ?_ | refine Kn ?_ | refine Kb (by assumption) ?_) | ((with_reducible first | refine Kw ?_ ?_ | refine Fw ?_) <;> first | with_reducible rfl | (simp; done)) | (with_reducible first | refine Ka _ ?_ | refine Ks _ (by first | exact Nat.le_refl _ | omega | (simp; done) | (simp; omega)) ?_ | refine Fd ?_ | refine Fn ?_ | refine Fb (by assumption) (by first | exact Nat.le_refl _ | omega | (simp; done) | (simp; omega)) ?_ | refine Fa _ (by first | exact Nat.le_refl _ | omega | (simp; done) | (simp; omega)) ?_ | refine Fs _ ?_))))).mono ?_
  rintro e w8 ⟨rfl, hb⟩
  have hx : Below w7.heap.size w7 w8 := (by repeat (first | (with_reducible first | exact Below.refl _ _ | refine Below.drew ?_ | refine below_drewN ?_ _) | ((with_reducible first | refine Lc ?_ ?_ _ | refine Ls ?_ ?_ _ | refine Lv (by assumption) ?_ ?_); · first | exact Nat.le_refl _ | omega | (simp; done) | (simp; omega) | (simp at *; omega))))
  replace S := Lib.hid (S.out.later hx)
  replace H := Lib.hid (H.out.later hx)
  replace A1 := Lib.hid (A1.out.later hx)
  replace g := Lib.hid (g.out.trans (hx.mono z))
  replace z := g.out.size
  clear R
  clear hb hx
  go_wp2_with fail
  refine (Three_any _).mono ?_
  rintro e w9 ⟨b, d, v, rfl, hr, ho, hbv, hb⟩
  have hx : Below w8.heap.size w8 w9 := (by repeat (first | (with_reducible first | exact Below.refl _ _ | refine Below.drew ?_ | refine below_drewN ?_ _) | ((with_reducible first | refine Lc ?_ ?_ _ | refine Ls ?_ ?_ _ | refine Lv (by assumption) ?_ ?_); · first | exact Nat.le_refl _ | omega | (simp; done) | (simp; omega) | (simp at *; omega))))
  replace S := Lib.hid (S.out.later hx)
  replace H := Lib.hid (H.out.later hx)
  replace A1 := Lib.hid (A1.out.later hx)
  replace g := Lib.hid (g.out.trans (hx.mono z))
  replace z := g.out.size
  have R := Lib.hid (show Th _ b d v from hr)
  clear hr ho hbv
  clear hb hx
  go_wp2_with fail
  refine (next3 b d v _ (R.out.later (by repeat (first | (with_reducible first | exact Below.refl _ _ | refine Below.drew ?_ | refine below_drewN ?_ _) | ((with_reducible first | refine Lc ?_ ?_ _ | refine Ls ?_ ?_ _ | refine Lv (by assumption) ?_ ?_); · first | exact Nat.le_refl _ | omega | (simp; done) | (simp; omega) | (simp at *; omega)))))).mono ?_
  rintro e w10 ⟨rfl, hb⟩
  have hx : Below w9.heap.size w9 w10 := (by repeat (first | (with_reducible first | exact Below.refl _ _ | refine Below.drew ?_ | refine below_drewN ?_ _) | ((with_reducible first | refine Lc ?_ ?_ _ | refine Ls ?_ ?_ _ | refine Lv (by assumption) ?_ ?_); · first | exact Nat.le_refl _ | omega | (simp; done) | (simp; omega) | (simp at *; omega))))
  replace S := Lib.hid (S.out.later hx)
  replace H := Lib.hid (H.out.later hx)
  replace A1 := Lib.hid (A1.out.later hx)
  replace g := Lib.hid (g.out.trans (hx.mono z))
  replace z := g.out.size
  clear R
  clear hb hx
  go_upto_region 6 with fail
  obtain ⟨a0, a1⟩ := A1.out
  go_cut [106] (fun c wx => c = .bool false ∧ Hid (Below W.heap.size W wx))
  case first =>
    go_region_held3 (fun w' => w'.cell? ⟨w6.heap.size, 0, none⟩ = some (.int .i64 64) ∧ w'.cell? ⟨w6.heap.size, 1, none⟩ = some (.int .i64 76)) ((go_split_ands; (repeat' refine And.intro ?_ ?_) <;> (repeat (first | with_reducible assumption | (simp; done) | (with_reducible first | refine Kd ?_ | refine Kn ?_ | refine Kb (by assumption) ?_) | ((with_reducible first | refine Kw ?_ ?_ | refine Fw ?_) <;> first | with_reducible rfl | (simp; done)) | (with_reducible first | refine Ka _ ?_ | refine Ks _ (by first | exact Nat.le_refl _ | omega | (simp; done) | (simp; omega)) ?_ | refine Fd ?_ | refine Fn ?_ | refine Fb (by assumption) (by first | exact Nat.le_refl _ | omega | (simp; done) | (simp; omega)) ?_ | refine Fa _ (by first | exact Nat.le_refl _ | omega | (simp; done) | (simp; omega)) ?_ | refine Fs _ ?_))))) (first | (go_at_call 67; refine (span_fn _ _ _).mono ?_; rintro e wa ⟨rfl, hba⟩; obtain ⟨hca, hfa⟩ := bcell hba; have hza := hba.size; (try simp only [World.size_drew, World.heap_drewN, World.size_alloc] at hza); clear hca hfa) | (go_at_call_of 37 (Value.slice sA 3 sc); refine (alikeS sA sc _ _ (S.out.later (by repeat (first | (with_reducible first | exact Below.refl _ _ | refine Below.drew ?_ | refine below_drewN ?_ _) | ((with_reducible first | refine Lc ?_ ?_ _ | refine Ls ?_ ?_ _ | refine Lv (by assumption) ?_ ?_); · first | exact Nat.le_refl _ | omega | (simp; done) | (simp; omega) | (simp at *; omega))))) (by (repeat' refine And.intro ?_ ?_) <;> (repeat (first | with_reducible assumption | (simp; done) | (with_reducible first | refine Kd ?_ | refine Kn ?_ | refine Kb (by assumption) ?_) | ((with_reducible first | refine Kw ?_ ?_ | refine Fw ?_) <;> first | with_reducible rfl | (simp; done)) | (with_reducible first | refine Ka _ ?_ | refine Ks _ (by first | exact Nat.le_refl _ | omega | (simp; done) | (simp; omega)) ?_ | refine Fd ?_ | refine Fn ?_ | refine Fb (by assumption) (by first | exact Nat.le_refl _ | omega | (simp; done) | (simp; omega)) ?_ | refine Fa _ (by first | exact Nat.le_refl _ | omega | (simp; done) | (simp; omega)) ?_ | refine Fs _ ?_))))).mono ?_; rintro e wb ⟨rfl, hbb⟩; obtain ⟨hcb, hfb⟩ := bcell hbb; have hzb := hbb.size; (try simp only [World.size_drew, World.heap_drewN, World.size_alloc] at hzb); clear hcb hfb) | (go_at_call_of 37 (Value.slice hA 3 hc); refine (alikeH hA hc _ _ (H.out.later (by repeat (first | (with_reducible first | exact Below.refl _ _ | refine Below.drew ?_ | refine below_drewN ?_ _) | ((with_reducible first | refine Lc ?_ ?_ _ | refine Ls ?_ ?_ _ | refine Lv (by assumption) ?_ ?_); · first | exact Nat.le_refl _ | omega | (simp; done) | (simp; omega) | (simp at *; omega))))) (by (repeat' refine And.intro ?_ ?_) <;> (repeat (first | with_reducible assumption | (simp; done) | (with_reducible first | refine Kd ?_ | refine Kn ?_ | refine Kb (by assumption) ?_) | ((with_reducible first | refine Kw ?_ ?_ | refine Fw ?_) <;> first | with_reducible rfl | (simp; done)) | (with_reducible first | refine Ka _ ?_ | refine Ks _ (by first | exact Nat.le_refl _ | omega | (simp; done) | (simp; omega)) ?_ | refine Fd ?_ | refine Fn ?_ | refine Fb (by assumption) (by first | exact Nat.le_refl _ | omega | (simp; done) | (simp; omega)) ?_ | refine Fa _ (by first | exact Nat.le_refl _ | omega | (simp; done) | (simp; omega)) ?_ | refine Fs _ ?_))))).mono ?_; rintro e wb ⟨rfl, hbb⟩; obtain ⟨hcb, hfb⟩ := bcell hbb; have hzb := hbb.size; (try simp only [World.size_drew, World.heap_drewN, World.size_alloc] at hzb); clear hcb hfb))
    have hx : Below w10.heap.size w10 wa := (by repeat (first | (with_reducible first | exact Below.refl _ _ | refine Below.drew ?_ | refine below_drewN ?_ _) | ((with_reducible first | refine Lc ?_ ?_ _ | refine Ls ?_ ?_ _ | refine Lv (by assumption) ?_ ?_); · first | exact Nat.le_refl _ | omega | (simp; done) | (simp; omega) | (simp at *; omega))))
    have g13 := Lib.hid (g.out.trans (hx.mono z))
    clear hx hba hbb
    go_wp2_with fail
    go_meet
    exact ⟨rfl, g13⟩
  case rest =>
    obtain ⟨rfl, g13⟩ := hcut
    clear S H A1 g z a0 a1
    have g := g13
    have z := g13.out.size
    clear g13
    go_wp2_with fail
    refine (Three_any _).mono ?_
    rintro e w11 ⟨b, d, v, rfl, hr, ho, hbv, hb⟩
    replace g := Lib.hid (g.out.trans (hb.mono z))
    replace z := g.out.size
    have R := Lib.hid (show Th _ b d v from hr)
    clear hr ho hbv hb
    go_wp2_with fail
    refine (until3 b d v _ (R.out.later (by repeat (first | (with_reducible first | exact Below.refl _ _ | refine Below.drew ?_ | refine below_drewN ?_ _) | ((with_reducible first | refine Lc ?_ ?_ _ | refine Ls ?_ ?_ _ | refine Lv (by assumption) ?_ ?_); · first | exact Nat.le_refl _ | omega | (simp; done) | (simp; omega) | (simp at *; omega)))))).mono ?_
    rintro e w12 ⟨rfl, hb⟩
    have hx : Below w11.heap.size w11 w12 := (by repeat (first | (with_reducible first | exact Below.refl _ _ | refine Below.drew ?_ | refine below_drewN ?_ _) | ((with_reducible first | refine Lc ?_ ?_ _ | refine Ls ?_ ?_ _ | refine Lv (by assumption) ?_ ?_); · first | exact Nat.le_refl _ | omega | (simp; done) | (simp; omega) | (simp at *; omega))))
    replace g := Lib.hid (g.out.trans (hx.mono z))
    replace z := g.out.size
    clear R
    clear hb hx
    go_wp2_with fail
    have U := Lib.hid (show N2c (w12.alloc (.cells #[.int .i64 2, .int .i64 3] 49)) w12.heap.size 2 3 from (by (repeat' refine And.intro ?_ ?_) <;> (repeat (first | with_reducible assumption | (simp; done) | (with_reducible first | refine Kd ?_ | refine Kn ?_ | refine Kb (by assumption) ?_) | ((with_reducible first | refine Kw ?_ ?_ | refine Fw ?_) <;> first | with_reducible rfl | (simp; done)) | (with_reducible first | refine Ka _ ?_ | refine Ks _ (by first | exact Nat.le_refl _ | omega | (simp; done) | (simp; omega)) ?_ | refine Fd ?_ | refine Fn ?_ | refine Fb (by assumption) (by first | exact Nat.le_refl _ | omega | (simp; done) | (simp; omega)) ?_ | refine Fa _ (by first | exact Nat.le_refl _ | omega | (simp; done) | (simp; omega)) ?_ | refine Fs _ ?_)))))
    refine (Three_any _).mono ?_
    rintro e w13 ⟨b, d, v, rfl, hr, ho, hbv, hb⟩
    have hx : Below w12.heap.size w12 w13 := (by repeat (first | (with_reducible first | exact Below.refl _ _ | refine Below.drew ?_ | refine below_drewN ?_ _) | ((with_reducible first | refine Lc ?_ ?_ _ | refine Ls ?_ ?_ _ | refine Lv (by assumption) ?_ ?_); · first | exact Nat.le_refl _ | omega | (simp; done) | (simp; omega) | (simp at *; omega))))
    replace U := Lib.hid (U.out.later hb)
    replace g := Lib.hid (g.out.trans (hx.mono z))
    replace z := g.out.size
    have R := Lib.hid (show Th _ b d v from hr)
    clear hr ho hbv hb hx
    go_wp2_with fail
    refine (expect3 b d v _ (R.out.later (by repeat (first | (with_reducible first | exact Below.refl _ _ | refine Below.drew ?_ | refine below_drewN ?_ _) | ((with_reducible first | refine Lc ?_ ?_ _ | refine Ls ?_ ?_ _ | refine Lv (by assumption) ?_ ?_); · first | exact Nat.le_refl _ | omega | (simp; done) | (simp; omega) | (simp at *; omega))))) w13.heap.size (by (repeat' refine And.intro ?_ ?_) <;> (repeat (first | with_reducible assumption | (simp; done) | (with_reducible first | refine Kd ?_ | refine Kn ?_ | refine Kb (by assumption) ?_) | ((with_reducible first | refine Kw ?_ ?_ | refine Fw ?_) <;> first | with_reducible rfl | (simp; done)) | (with_reducible first | refine Ka _ ?_ | refine Ks _ (by first | exact Nat.le_refl _ | omega | (simp; done) | (simp; omega)) ?_ | refine Fd ?_ | refine Fn ?_ | refine Fb (by assumption) (by first | exact Nat.le_refl _ | omega | (simp; done) | (simp; omega)) ?_ | refine Fa _ (by first | exact Nat.le_refl _ | omega | (simp; done) | (simp; omega)) ?_ | refine Fs _ ?_))))).mono ?_
    rintro e w14 ⟨rfl, hb⟩
    have hx : Below w13.heap.size w13 w14 := (by repeat (first | (with_reducible first | exact Below.refl _ _ | refine Below.drew ?_ | refine below_drewN ?_ _) | ((with_reducible first | refine Lc ?_ ?_ _ | refine Ls ?_ ?_ _ | refine Lv (by assumption) ?_ ?_); · first | exact Nat.le_refl _ | omega | (simp; done) | (simp; omega) | (simp at *; omega))))
    replace U := Lib.hid (U.out.later hx)
    replace g := Lib.hid (g.out.trans (hx.mono z))
    replace z := g.out.size
    clear R
    clear hb hx
    go_upto_region 10 with fail
    refine wp_world (fun w' => (N2c w' w14.heap.size 5 1 ∧ N2c w' (w14.heap.size + 1) 15 2) ∧ Below w14.heap.size w14 w') ⟨⟨(by (repeat' refine And.intro ?_ ?_) <;> (repeat (first | with_reducible assumption | (simp; done) | (with_reducible first | refine Kd ?_ | refine Kn ?_ | refine Kb (by assumption) ?_) | ((with_reducible first | refine Kw ?_ ?_ | refine Fw ?_) <;> first | with_reducible rfl | (simp; done)) | (with_reducible first | refine Ka _ ?_ | refine Ks _ (by first | exact Nat.le_refl _ | omega | (simp; done) | (simp; omega)) ?_ | refine Fd ?_ | refine Fn ?_ | refine Fb (by assumption) (by first | exact Nat.le_refl _ | omega | (simp; done) | (simp; omega)) ?_ | refine Fa _ (by first | exact Nat.le_refl _ | omega | (simp; done) | (simp; omega)) ?_ | refine Fs _ ?_)))), (by (repeat' refine And.intro ?_ ?_) <;> (repeat (first | with_reducible assumption | (simp; done) | (with_reducible first | refine Kd ?_ | refine Kn ?_ | refine Kb (by assumption) ?_) | ((with_reducible first | refine Kw ?_ ?_ | refine Fw ?_) <;> first | with_reducible rfl | (simp; done)) | (with_reducible first | refine Ka _ ?_ | refine Ks _ (by first | exact Nat.le_refl _ | omega | (simp; done) | (simp; omega)) ?_ | refine Fd ?_ | refine Fn ?_ | refine Fb (by assumption) (by first | exact Nat.le_refl _ | omega | (simp; done) | (simp; omega)) ?_ | refine Fa _ (by first | exact Nat.le_refl _ | omega | (simp; done) | (simp; omega)) ?_ | refine Fs _ ?_))))⟩, (by repeat (first | (with_reducible first | exact Below.refl _ _ | assumption | refine Below.drew ?_) | ((with_reducible first | refine Lc ?_ ?_ _ | refine Ls ?_ ?_ _ | refine Lv (by assumption) ?_ ?_); · first | exact Nat.le_refl _ | omega | (dsimp only; omega) | (simp only [World.size_alloc, World.size_drew, World.heap_drewN]; omega) | (simp; omega))))⟩ ?_
    rintro wf ⟨⟨he1, he2⟩, hx⟩
    have E1 := Lib.hid he1
    have E2 := Lib.hid he2
    clear he1 he2
    replace U := Lib.hid (U.out.later hx)
    replace g := Lib.hid (g.out.trans (hx.mono z))
    replace z := g.out.size
    clear hx
    have hzf : W.heap.size ≤ wf.heap.size := z
    have hu1 := World.block_lt_of_cell? wf _ U.out.1
    have hu2 := World.block_lt_of_cell? wf _ E1.out.1
    have hu3 := World.block_lt_of_cell? wf _ E2.out.1
    go_wp2_with fail
    refine (Three_any _).mono ?_
    rintro e w15 ⟨b, d, v, rfl, hr, ho, hbv, hb⟩
    have hx : Below wf.heap.size wf w15 := (by repeat (first | (with_reducible first | exact Below.refl _ _ | refine Below.drew ?_ | refine below_drewN ?_ _) | ((with_reducible first | refine Lc ?_ ?_ _ | refine Ls ?_ ?_ _ | refine Lv (by assumption) ?_ ?_); · first | exact Nat.le_refl _ | omega | (simp; done) | (simp; omega) | (simp at *; omega))))
    replace U := Lib.hid (U.out.later hx)
    replace E1 := Lib.hid (E1.out.later hx)
    replace E2 := Lib.hid (E2.out.later hx)
    replace g := Lib.hid (g.out.trans (hx.mono z))
    replace z := g.out.size
    have R := Lib.hid (show Th _ b d v from hr)
    have O := Lib.hid ho
    clear hr ho
    clear hb hx
    have hvl := O.out.lt v rfl
    obtain ⟨n1, hn1⟩ : ∃ n1 : Nat, n1 = 1 := ⟨_, rfl⟩
    have HN := Lib.hid hn1
    go_upto_region 11 with fail
    refine wp_world (fun w' => Bx3 w' w15.heap.size (.slice (some ⟨b, 0, none⟩) 3 3) (.slice (some ⟨d, 0, none⟩) 3 3) (.slice (some ⟨v, 0, none⟩) n1 n1) ∧ w'.frozen? ⟨w15.heap.size, 2, none⟩ = false ∧ Below w15.heap.size w15 w' ∧ w15.heap.size < w'.heap.size) ⟨by rw [hn1]; exact (by (repeat' refine And.intro ?_ ?_) <;> (repeat (first | with_reducible assumption | (simp; done) | (with_reducible first | refine Kd ?_ | refine Kn ?_ | refine Kb (by assumption) ?_) | ((with_reducible first | refine Kw ?_ ?_ | refine Fw ?_) <;> first | with_reducible rfl | (simp; done)) | (with_reducible first | refine Ka _ ?_ | refine Ks _ (by first | exact Nat.le_refl _ | omega | (simp; done) | (simp; omega)) ?_ | refine Fd ?_ | refine Fn ?_ | refine Fb (by assumption) (by first | exact Nat.le_refl _ | omega | (simp; done) | (simp; omega)) ?_ | refine Fa _ (by first | exact Nat.le_refl _ | omega | (simp; done) | (simp; omega)) ?_ | refine Fs _ ?_)))), (by (repeat' refine And.intro ?_ ?_) <;> (repeat (first | with_reducible assumption | (simp; done) | (with_reducible first | refine Kd ?_ | refine Kn ?_ | refine Kb (by assumption) ?_) | ((with_reducible first | refine Kw ?_ ?_ | refine Fw ?_) <;> first | with_reducible rfl | (simp; done)) | (with_reducible first | refine Ka _ ?_ | refine Ks _ (by first | exact Nat.le_refl _ | omega | (simp; done) | (simp; omega)) ?_ | refine Fd ?_ | refine Fn ?_ | refine Fb (by assumption) (by first | exact Nat.le_refl _ | omega | (simp; done) | (simp; omega)) ?_ | refine Fa _ (by first | exact Nat.le_refl _ | omega | (simp; done) | (simp; omega)) ?_ | refine Fs _ ?_)))), (by repeat (first | (with_reducible first | exact Below.refl _ _ | assumption | refine Below.drew ?_) | ((with_reducible first | refine Lc ?_ ?_ _ | refine Ls ?_ ?_ _ | refine Lv (by assumption) ?_ ?_); · first | exact Nat.le_refl _ | omega | (dsimp only; omega) | (simp only [World.size_alloc, World.size_drew, World.heap_drewN]; omega) | (simp; omega)))), by simp⟩ ?_
    rintro wg ⟨⟨t0, t1, t2⟩, tf, hx, hsg⟩
    replace O := Lib.hid (show wg.ownsRow wf.heap.size 101 4 (.slice (some ⟨v, 0, none⟩) n1 n1) n1 [.int .i64 0, .int .i64 1, .int .i64 60, .int .i64 4] by have h := owns_later O.out hx; rw [hn1]; exact h)
    replace hn1 : 1 ≤ n1 ∧ n1 ≤ 1 := by omega
    replace U := Lib.hid (U.out.later hx)
    replace E1 := Lib.hid (E1.out.later hx)
    replace E2 := Lib.hid (E2.out.later hx)
    replace g := Lib.hid (g.out.trans (hx.mono z))
    replace z := g.out.size
    have HX := Lib.hid hx
    clear hx
    obtain ⟨i0, hi, hz0, hz1, hz2⟩ := info_parts infoWg
    have hsO := O.out.lt
    go_upto_region 12 with (at_builtin; refine wpList_append_lies _ rfl (.tmp 121) (.tmp 123) 24 rfl wf.heap.size 101 i0 (.agg #[.int .i64 0, .int .i64 0, .int .i64 0, .int .i64 0]) 4 32 wgs_under hi hz0 hz1 hz2 rfl (by decide) (.slice (some ⟨v, 0, none⟩) n1 n1) n1 [.int .i64 0, .int .i64 1, .int .i64 60, .int .i64 4] rfl (O.out.alloc _) ⟨wg.heap.size, 0, none⟩ 1 1 (wgC ⟨1, 2, 50, 0⟩) rfl rfl (new_cells (cs := wgC ⟨1, 2, 50, 0⟩)) (wgC_one _) (by omega) (by unfold maxLen; omega) (by omega) (by have := hsO _ rfl; simp; omega) (wg.heap.size + 1) (by simp) ?_; intro g8 cap w8 hown8 hgr8 hat8 hlt8; have q0 := keep_cell hgr8 hsg (by omega) t0; have q1 := keep_cell hgr8 hsg (by omega) t1; have q2 := keep_cell hgr8 hsg (by omega) t2; have qf := keep_fro hgr8 hsg (by omega) tf)
    refine wp_world (fun w' => Bx3 w' w15.heap.size (.slice (some ⟨b, 0, none⟩) 3 3) (.slice (some ⟨d, 0, none⟩) 3 3) (.slice (some ⟨g8, 0, none⟩) (n1 + 1) cap) ∧ Below w15.heap.size w8 w' ∧ (∀ i, i ≠ w15.heap.size → w'.heap[i]? = w8.heap[i]?) ∧ w'.heap.size = w8.heap.size) ⟨⟨by simp [go_sem, q0], by simp [go_sem, q1], by simp [go_sem, q2]⟩, by have := (Below.refl w15.heap.size w8); exact this.setCell (by dsimp only; omega) _, fun i hi => set_heap _ (by exact hi), by simp only [World.setCell, Array.size_modify]⟩ ?_
    rintro wh ⟨tb, hbx, hkh, hsh⟩
    obtain rfl : n1 = 1 := HN.out
    obtain ⟨A', c', he, how, hcc⟩ := OwnWg.of (P := rt3.V) (show w8.ownsRow wf.heap.size 101 4 (.slice (some ⟨g8, 0, none⟩) 2 cap) 2 (rowC wgC rt3.V 2) from hown8)
    injection he with e1 _ e2
    subst e1 e2
    have hg8 : g8 ≠ w15.heap.size := by
      rcases hat8 with h | h
      · have h : v = g8 := by injection h
        omega
      · omega
    have hz8 := hgr8.size
    simp only [World.size_alloc] at hz8
    have hkw : ∀ i, i < wg.heap.size → i ≠ v → i ≠ w15.heap.size → wh.heap[i]? = wg.heap[i]? := fun i h1 h2 h3 => (hkh i h3).trans (keep_blk hgr8 rfl h1 h2)
    have hwf : wf.heap.size ≤ w15.heap.size := by omega
    have U2 : Hid (N2c wh w12.heap.size 2 3) := Lib.hid ⟨cell_same (hkw _ (by omega) (by omega) (by omega)) U.out.1, cell_same (hkw _ (by omega) (by omega) (by omega)) U.out.2⟩
    have E12 : Hid (N2c wh w14.heap.size 5 1) := Lib.hid ⟨cell_same (hkw _ (by omega) (by omega) (by omega)) E1.out.1, cell_same (hkw _ (by omega) (by omega) (by omega)) E1.out.2⟩
    have E22 : Hid (N2c wh (w14.heap.size + 1) 15 2) := Lib.hid ⟨cell_same (hkw _ (by omega) (by omega) (by omega)) E2.out.1, cell_same (hkw _ (by omega) (by omega) (by omega)) E2.out.2⟩
    have R2 := R.out.on HX.out
    have TW : Hid (Tw wh b d (some ⟨g8, 0, none⟩) cap) := Lib.hid ⟨Nat.le_refl _, sameBn R2.b (hkw b (by omega) (by omega) (by omega)) (by omega), sameInt R2.d (hkw d (by omega) (by omega) (by omega)) (by omega), fun k hk => by
      obtain ⟨b', hA, _, c0, c1, c2, c3, _⟩ := how k hk
      injection hA with hA
      injection hA with hA
      subst hA
      exact ⟨g8, 0, rfl, by omega, by rw [Nat.zero_add]; exact cell_same (hkh g8 hg8) c0, by rw [Nat.zero_add]; exact cell_same (hkh g8 hg8) c1, by rw [Nat.zero_add]; exact cell_same (hkh g8 hg8) c2, by rw [Nat.zero_add]; exact cell_same (hkh g8 hg8) c3⟩, by decide, by decide, by decide, by decide, by decide, hcc⟩
    have TB : Hid (Bx3 wh w15.heap.size (.slice (some ⟨b, 0, none⟩) 3 3) (.slice (some ⟨d, 0, none⟩) 3 3) (.slice (some ⟨g8, 0, none⟩) 2 cap)) := Lib.hid tb
    have g2 : Hid (Below W.heap.size W wh) := Lib.hid (g.out.trans ⟨hbx.os.trans hgr8.os, hbx.tape.trans hgr8.tape, hbx.output.trans hgr8.output, by omega, fun i hi => hkw i (by omega) (by omega) (by omega)⟩)
    clear U E1 E2 g z R R2 how hkw hkh hbx tb hown8 hgr8 hat8 hlt8 hsO O HX t0 t1 t2 tf hi hz0 hz1 hz2
    have U := U2
    have E1 := E12
    have E2 := E22
    have g := g2
    have z := g2.out.size
    clear U2 E12 E22 g2
    obtain ⟨t0, t1, t2⟩ := TB.out
    go_wp2_with fail
    refine (clash3 b d cap _ _ (TW.out.later (by repeat (first | (with_reducible first | exact Below.refl _ _ | refine Below.drew ?_ | refine below_drewN ?_ _) | ((with_reducible first | refine Lc ?_ ?_ _ | refine Ls ?_ ?_ _ | refine Lv (by assumption) ?_ ?_); · first | exact Nat.le_refl _ | omega | (simp; done) | (simp; omega) | (simp at *; omega)))))).mono ?_
    rintro e w16 ⟨cA, cc, rfl, hq, hb⟩
    have hx : Below wh.heap.size wh w16 := (by repeat (first | (with_reducible first | exact Below.refl _ _ | refine Below.drew ?_ | refine below_drewN ?_ _) | ((with_reducible first | refine Lc ?_ ?_ _ | refine Ls ?_ ?_ _ | refine Lv (by assumption) ?_ ?_); · first | exact Nat.le_refl _ | omega | (simp; done) | (simp; omega) | (simp at *; omega))))
    replace U := Lib.hid (U.out.later hx)
    replace E1 := Lib.hid (E1.out.later hx)
    replace E2 := Lib.hid (E2.out.later hx)
    replace TW := Lib.hid (TW.out.later hx)
    replace TB := Lib.hid (TB.out.later hx)
    replace g := Lib.hid (g.out.trans (hx.mono z))
    replace z := g.out.size
    have CL := Lib.hid hq
    clear hq t0 t1 t2
    obtain ⟨t0, t1, t2⟩ := TB.out
    clear hb hx
    go_wp2_with fail
    refine (few3 b d cap _ _ (TW.out.later (by repeat (first | (with_reducible first | exact Below.refl _ _ | refine Below.drew ?_ | refine below_drewN ?_ _) | ((with_reducible first | refine Lc ?_ ?_ _ | refine Ls ?_ ?_ _ | refine Lv (by assumption) ?_ ?_); · first | exact Nat.le_refl _ | omega | (simp; done) | (simp; omega) | (simp at *; omega)))))).mono ?_
    rintro e w17 ⟨fA, fc, rfl, hq, hb⟩
    have hx : Below w16.heap.size w16 w17 := (by repeat (first | (with_reducible first | exact Below.refl _ _ | refine Below.drew ?_ | refine below_drewN ?_ _) | ((with_reducible first | refine Lc ?_ ?_ _ | refine Ls ?_ ?_ _ | refine Lv (by assumption) ?_ ?_); · first | exact Nat.le_refl _ | omega | (simp; done) | (simp; omega) | (simp at *; omega))))
    replace U := Lib.hid (U.out.later hx)
    replace E1 := Lib.hid (E1.out.later hx)
    replace E2 := Lib.hid (E2.out.later hx)
    replace TW := Lib.hid (TW.out.later hx)
    replace TB := Lib.hid (TB.out.later hx)
    replace CL := Lib.hid (CL.out.later hx)
    replace g := Lib.hid (g.out.trans (hx.mono z))
    replace z := g.out.size
    have FW := Lib.hid hq
    clear hq t0 t1 t2
    obtain ⟨t0, t1, t2⟩ := TB.out
    clear hb hx
    go_wp2_with fail
    refine (contra3 b d cap _ _ (TW.out.later (by repeat (first | (with_reducible first | exact Below.refl _ _ | refine Below.drew ?_ | refine below_drewN ?_ _) | ((with_reducible first | refine Lc ?_ ?_ _ | refine Ls ?_ ?_ _ | refine Lv (by assumption) ?_ ?_); · first | exact Nat.le_refl _ | omega | (simp; done) | (simp; omega) | (simp at *; omega))))) w17.heap.size (by (repeat' refine And.intro ?_ ?_) <;> (repeat (first | with_reducible assumption | (simp; done) | (with_reducible first | refine Kd ?_ | refine Kn ?_ | refine Kb (by assumption) ?_) | ((with_reducible first | refine Kw ?_ ?_ | refine Fw ?_) <;> first | with_reducible rfl | (simp; done)) | (with_reducible first | refine Ka _ ?_ | refine Ks _ (by first | exact Nat.le_refl _ | omega | (simp; done) | (simp; omega)) ?_ | refine Fd ?_ | refine Fn ?_ | refine Fb (by assumption) (by first | exact Nat.le_refl _ | omega | (simp; done) | (simp; omega)) ?_ | refine Fa _ (by first | exact Nat.le_refl _ | omega | (simp; done) | (simp; omega)) ?_ | refine Fs _ ?_))))).mono ?_
    rintro e w18 ⟨rfl, hb⟩
    have hx : Below w17.heap.size w17 w18 := (by repeat (first | (with_reducible first | exact Below.refl _ _ | refine Below.drew ?_ | refine below_drewN ?_ _) | ((with_reducible first | refine Lc ?_ ?_ _ | refine Ls ?_ ?_ _ | refine Lv (by assumption) ?_ ?_); · first | exact Nat.le_refl _ | omega | (simp; done) | (simp; omega) | (simp at *; omega))))
    replace U := Lib.hid (U.out.later hx)
    replace E1 := Lib.hid (E1.out.later hx)
    replace E2 := Lib.hid (E2.out.later hx)
    replace TW := Lib.hid (TW.out.later hx)
    replace TB := Lib.hid (TB.out.later hx)
    replace CL := Lib.hid (CL.out.later hx)
    replace FW := Lib.hid (FW.out.later hx)
    replace g := Lib.hid (g.out.trans (hx.mono z))
    replace z := g.out.size
    clear t0 t1 t2 TW TB
    clear hb hx
    obtain ⟨a0, a1⟩ := U.out
    obtain ⟨b0, b1⟩ := E1.out
    obtain ⟨c0, c1⟩ := E2.out
    go_upto_region 15 with fail
    go_region_held3 (fun w' => w'.cell? ⟨w12.heap.size, 0, none⟩ = some (.int .i64 2) ∧ w'.cell? ⟨w12.heap.size, 1, none⟩ = some (.int .i64 3) ∧ w'.cell? ⟨w14.heap.size, 0, none⟩ = some (.int .i64 5) ∧ w'.cell? ⟨w14.heap.size, 1, none⟩ = some (.int .i64 1) ∧ w'.cell? ⟨w14.heap.size + 1, 0, none⟩ = some (.int .i64 15) ∧ w'.cell? ⟨w14.heap.size + 1, 1, none⟩ = some (.int .i64 2)) ((go_split_ands; (repeat' refine And.intro ?_ ?_) <;> (repeat (first | with_reducible assumption | (simp; done) | (with_reducible first | refine Kd ?_ | refine Kn ?_ | refine Kb (by assumption) ?_) | ((with_reducible first | refine Kw ?_ ?_ | refine Fw ?_) <;> first | with_reducible rfl | (simp; done)) | (with_reducible first | refine Ka _ ?_ | refine Ks _ (by first | exact Nat.le_refl _ | omega | (simp; done) | (simp; omega)) ?_ | refine Fd ?_ | refine Fn ?_ | refine Fb (by assumption) (by first | exact Nat.le_refl _ | omega | (simp; done) | (simp; omega)) ?_ | refine Fa _ (by first | exact Nat.le_refl _ | omega | (simp; done) | (simp; omega)) ?_ | refine Fs _ ?_))))) (first | (go_at_call 67; refine (span_fn _ _ _).mono ?_; rintro e wa ⟨rfl, hba⟩; obtain ⟨hca, hfa⟩ := bcell hba; have hza := hba.size; (try simp only [World.size_drew, World.heap_drewN, World.size_alloc] at hza); clear hca hfa) | (go_at_call_of 17 (Value.slice cA 2 cc); refine (alikeC cA cc _ _ (CL.out.later (by repeat (first | (with_reducible first | exact Below.refl _ _ | refine Below.drew ?_ | refine below_drewN ?_ _) | ((with_reducible first | refine Lc ?_ ?_ _ | refine Ls ?_ ?_ _ | refine Lv (by assumption) ?_ ?_); · first | exact Nat.le_refl _ | omega | (simp; done) | (simp; omega) | (simp at *; omega))))) (by (repeat' refine And.intro ?_ ?_) <;> (repeat (first | with_reducible assumption | (simp; done) | (with_reducible first | refine Kd ?_ | refine Kn ?_ | refine Kb (by assumption) ?_) | ((with_reducible first | refine Kw ?_ ?_ | refine Fw ?_) <;> first | with_reducible rfl | (simp; done)) | (with_reducible first | refine Ka _ ?_ | refine Ks _ (by first | exact Nat.le_refl _ | omega | (simp; done) | (simp; omega)) ?_ | refine Fd ?_ | refine Fn ?_ | refine Fb (by assumption) (by first | exact Nat.le_refl _ | omega | (simp; done) | (simp; omega)) ?_ | refine Fa _ (by first | exact Nat.le_refl _ | omega | (simp; done) | (simp; omega)) ?_ | refine Fs _ ?_))))).mono ?_; rintro e wb ⟨rfl, hbb⟩; obtain ⟨hcb, hfb⟩ := bcell hbb; have hzb := hbb.size; (try simp only [World.size_drew, World.heap_drewN, World.size_alloc] at hzb); clear hcb hfb) | (go_at_call_of 17 (Value.slice fA 1 fc); refine (alikeF fA fc _ _ (FW.out.later (by repeat (first | (with_reducible first | exact Below.refl _ _ | refine Below.drew ?_ | refine below_drewN ?_ _) | ((with_reducible first | refine Lc ?_ ?_ _ | refine Ls ?_ ?_ _ | refine Lv (by assumption) ?_ ?_); · first | exact Nat.le_refl _ | omega | (simp; done) | (simp; omega) | (simp at *; omega))))) (by (repeat' refine And.intro ?_ ?_) <;> (repeat (first | with_reducible assumption | (simp; done) | (with_reducible first | refine Kd ?_ | refine Kn ?_ | refine Kb (by assumption) ?_) | ((with_reducible first | refine Kw ?_ ?_ | refine Fw ?_) <;> first | with_reducible rfl | (simp; done)) | (with_reducible first | refine Ka _ ?_ | refine Ks _ (by first | exact Nat.le_refl _ | omega | (simp; done) | (simp; omega)) ?_ | refine Fd ?_ | refine Fn ?_ | refine Fb (by assumption) (by first | exact Nat.le_refl _ | omega | (simp; done) | (simp; omega)) ?_ | refine Fa _ (by first | exact Nat.le_refl _ | omega | (simp; done) | (simp; omega)) ?_ | refine Fs _ ?_))))).mono ?_; rintro e wb ⟨rfl, hbb⟩; obtain ⟨hcb, hfb⟩ := bcell hbb; have hzb := hbb.size; (try simp only [World.size_drew, World.heap_drewN, World.size_alloc] at hzb); clear hcb hfb))
    have hg := g.out
    go_wp2_with fail
    go_ret
    exact ⟨rfl, (by repeat (first | (with_reducible first | exact Below.refl _ _ | refine Below.drew ?_ | refine below_drewN ?_ _) | ((with_reducible first | refine Lc ?_ ?_ _ | refine Ls ?_ ?_ _ | refine Lv (by assumption) ?_ ?_); · first | exact Nat.le_refl _ | omega | (simp; done) | (simp; omega) | (simp at *; omega))))⟩
end Go.Proofs.YtnnikeolgknfoaaGreat
