/- The law BinProofs: its copies and comparisons. (Written by gen_wm.py.) -/
import Derived.Test.YtnnikeolgknfoaaGreatGa
import Derived.ProofKit
import Derived.Deep.Slices
import Derived.Deep.Fields
import Derived.Lib.SmallJoins
import Derived.Test.YtnnikeolgknfoaaGreatBb
import Derived.Test.YtnnikeolgknfoaaGreatEcm
import Derived.Test.YtnnikeolgknfoaaGreatD3
import Derived.Test.YtnnikeolgknfoaaGreatEco
import Derived.Test.YtnnikeolgknfoaaGreatBs
import Derived.Test.YtnnikeolgknfoaaGreatCp
set_option linter.unusedSimpArgs false
set_option linter.unusedVariables false
namespace Go.Proofs.YtnnikeolgknfoaaGreat
open Go.ChangeShapes Go.WideShapes Go.ChangeAt Go.RowKit Go.Deep Go.Joins

theorem own_knob : ownKnob Tryz.prog.godebug = none := by kernel_rfl
theorem laid_out : laidOutB Tryz.prog = true := by kernel_rfl
end Go.Proofs.YtnnikeolgknfoaaGreat

set_option linter.unusedSimpArgs false
set_option linter.unusedVariables false
namespace Go.Proofs.YtnnikeolgknfoaaGreat
open Go.ChangeShapes Go.WideShapes Go.ChangeAt Go.RowKit Go.Deep Go.Joins

/-- the bool in a cell -/
def boolAt (w : World) (a : Addr) : Bool := match w.cell? a with | some (.bool z) => z | _ => false
theorem boolAt_eq {w : World} {a : Addr} {z : Bool} (h : w.cell? a = some (.bool z)) : w.cell? a = some (.bool (boolAt w a)) := by
  unfold boolAt; rw [h]
def NumCs (cs : List Value) (n : Nat) : Prop := cs.length = n ∧ ∀ j, j < n → ∃ z : Int, cs[j]? = some (.int .i64 z)
theorem part_get {cs l : List Value} {o n j : Nat} {v : Value} (h : (cs.drop o).take n = l) (hj : l[j]? = some v) : cs[o + j]? = some v := by
  rw [← h] at hj
  have hjn : j < n := by
    have := (List.getElem?_eq_some_iff.1 hj).1
    simp at this
    omega
  rw [List.getElem?_take_of_lt hjn, List.getElem?_drop] at hj
  exact hj

section
variable {H : Type} {enc : TypeId × Value → H} {w : World} {base : Nat} {spare : Nat → Bool} {held : Bool}

set_option maxRecDepth 100000 in
theorem num_int {t : TypeId} (ht : Tryz.prog.underlying t = some (.int .i64)) {fuel : Nat} {cs : List Value} {x : DataW H × List MemPlace} (h : DataW.trod enc Tryz.prog w base spare held fuel t cs = some x) : ∃ z : Int, cs = [.int .i64 z] := by
  obtain ⟨z, hz, _⟩ := DataW.trod_int ht h
  exact ⟨z, hz⟩
theorem kind_under : Tryz.prog.underlying 52 = some (.int .i64) := by kernel_rfl
theorem cells_int : Tryz.prog.cellsOf 3 = 1 := by kernel_rfl
theorem cells_sp : Tryz.prog.cellsOf 49 = 2 := by kernel_rfl
theorem cells_sps : Tryz.prog.cellsOf 117 = 6 := by kernel_rfl
theorem cells_bn : Tryz.prog.cellsOf 119 = 7 := by kernel_rfl
theorem cells_wg : Tryz.prog.cellsOf 101 = 4 := by kernel_rfl
theorem cells_kd : Tryz.prog.cellsOf 52 = 1 := by kernel_rfl
theorem spArrQ_under : Tryz.prog.underlying 117 = some (.array 3 49) := by kernel_rfl

set_option maxRecDepth 100000 in
theorem num_span {fuel : Nat} {cs : List Value} {x : DataW H × List MemPlace} (h : DataW.trod enc Tryz.prog w base spare held fuel 49 cs = some x) : NumCs cs 2 := by
  obtain ⟨y0, y1, n, -, hl, h0, h1⟩ := trod_struct2 Tryz.underlying49 h
  rw [cells_sp] at hl
  obtain ⟨z0, e0⟩ := num_int Tryz.underlying3 h0
  obtain ⟨z1, e1⟩ := num_int Tryz.underlying3 h1
  refine ⟨hl, fun j hj => ?_⟩
  have hj' : j = 0 ∨ j = 1 := by omega
  rcases hj' with rfl | rfl
  · exact ⟨z0, part_get (j := 0) e0 rfl⟩
  · exact ⟨z1, part_get (j := 0) e1 rfl⟩
set_option maxRecDepth 100000 in
theorem num_bin {fuel : Nat} {cs : List Value} {x : DataW H × List MemPlace} (h : DataW.trod enc Tryz.prog w base spare held fuel 119 cs = some x) : NumCs cs 7 := by
  obtain ⟨y0, y1, n, -, hl, h0, h1⟩ := trod_struct2 Tryz.underlying119 h
  rw [cells_bn] at hl
  obtain ⟨z6, e6⟩ := num_int Tryz.underlying3 h1
  obtain ⟨xs, m, -, -, hl2, hxl, ha⟩ := DataW.trod_array spArrQ_under h0
  refine ⟨hl, fun j hj => ?_⟩
  by_cases hj6 : j = 6
  · subst hj6
    exact ⟨z6, part_get (j := 0) e6 rfl⟩
  · have hi := ha (j / 2) (by omega)
    rw [cells_sp] at hi
    obtain ⟨y, hy⟩ : ∃ y, xs[j / 2]? = some y := ⟨xs[j / 2]'(by omega), List.getElem?_eq_getElem _⟩
    rw [hy] at hi
    obtain ⟨_, hs⟩ := num_span hi
    obtain ⟨z, hz⟩ := hs (j % 2) (by omega)
    have g1 := part_get rfl hz
    rw [show j / 2 * 2 + j % 2 = j by omega] at g1
    have g2 := part_get rfl g1
    exact ⟨z, by rw [Nat.zero_add] at g2; exact g2⟩
set_option maxRecDepth 100000 in
theorem num_wg {fuel : Nat} {cs : List Value} {x : DataW H × List MemPlace} (h : DataW.trod enc Tryz.prog w base spare held fuel 101 cs = some x) : NumCs cs 4 := by
  obtain ⟨y0, y1, y2, y3, n, -, hl, h0, h1, h2, h3⟩ := trod_struct4 Tryz.underlying101 h
  rw [cells_wg] at hl
  obtain ⟨z0, e0⟩ := num_int Tryz.underlying3 h0
  obtain ⟨z1, e1⟩ := num_int Tryz.underlying3 h1
  obtain ⟨z2, e2⟩ := num_int Tryz.underlying3 h2
  obtain ⟨z3, e3⟩ := num_int Tryz.underlying3 h3
  refine ⟨hl, fun j hj => ?_⟩
  have hj' : j = 0 ∨ j = 1 ∨ j = 2 ∨ j = 3 := by omega
  rcases hj' with rfl | rfl | rfl | rfl
  · exact ⟨z0, part_get (j := 0) e0 rfl⟩
  · exact ⟨z1, part_get (j := 0) e1 rfl⟩
  · exact ⟨z2, part_get (j := 0) e2 rfl⟩
  · exact ⟨z3, part_get (j := 0) e3 rfl⟩
theorem num_one {t : TypeId} (ht : Tryz.prog.underlying t = some (.int .i64)) {fuel : Nat} {cs : List Value} {x : DataW H × List MemPlace} (h : DataW.trod enc Tryz.prog w base spare held fuel t cs = some x) : NumCs cs 1 := by
  obtain ⟨z, rfl⟩ := num_int ht h
  exact ⟨rfl, fun j hj => ⟨z, by rw [show j = 0 by omega]; rfl⟩⟩

set_option maxRecDepth 100000 in
/-- a slice of elements of some cells -/
theorem open_cellsQ {t e : TypeId} {N : Nat} {Q : List Value → Prop} (ht : Tryz.prog.underlying t = some (.slice e)) (hC : Tryz.prog.cellsOf e = N) (hQ : ∀ (f : Nat) (cs : List Value) (x : DataW H × List MemPlace), DataW.trod enc Tryz.prog w base spare held f e cs = some x → Q cs)
    {fuel : Nat} {cs : List Value} {x : DataW H × List MemPlace} (h : DataW.trod enc Tryz.prog w base spare held fuel t cs = some x) :
    cs = [.slice none 0 0] ∨ ∃ (a : Addr) (len cap : Nat), cs = [.slice (some a) len cap] ∧ len ≤ cap ∧ ∀ i, i < len → ∃ cs', Q cs' ∧ ∀ j, j < N → w.cell? (a.add (i * N + j)) = cs'[j]? := by
  rcases open_slice ht h with ⟨h0, _⟩ | ⟨a, len, cap, m, n, D, Pl, hcs, hb, hl, hm, hmm, hx, hi⟩
  · exact .inl h0
  · refine .inr ⟨a, len, cap, hcs, hl, fun i hil => ?_⟩
    have him : i < m := by rw [hmm]; split <;> omega
    obtain ⟨cs', hc, ht'⟩ := hi i him
    rw [hC] at hc
    obtain ⟨_, hcl, hat⟩ := World.cells?_some hc
    refine ⟨cs', hQ _ _ _ ht', fun j hj => ?_⟩
    have := hat j hj
    rw [Go.Deep.add_add] at this
    exact this
theorem nums_at {a : Addr} {N i : Nat} (h : ∃ cs', NumCs cs' N ∧ ∀ j, j < N → w.cell? (a.add (i * N + j)) = cs'[j]?) : ∀ j, j < N → w.cell? (a.add (i * N + j)) = some (.int .i64 (numAt w (a.add (i * N + j)))) := fun j hj => by
  obtain ⟨cs', hQ, hc⟩ := h
  obtain ⟨z, hz⟩ := hQ.2 j hj
  exact numAt_eq (z := z) (by rw [hc j hj, hz])
theorem lit_add (b o j : Nat) : (⟨b, o, none⟩ : Addr).add j = ⟨b, o + j, none⟩ := Addr.add_lit _ _ _

set_option maxRecDepth 100000 in
theorem open_bnrow {fuel : Nat} {v : Value} {x : DataW H × List MemPlace} (h : DataW.trod enc Tryz.prog w base spare held fuel 22 [v] = some x) : ∃ A n c P, v = .slice A n c ∧ BnRow w w.heap.size A n P ∧ n ≤ c := by
  rcases open_cellsQ (Q := fun cs => NumCs cs 7) bns_under cells_bn (fun f cs x h => num_bin h) h with h0 | ⟨a, len, cap, hcs, hl, hc⟩
  · injection h0 with h0
    exact ⟨none, 0, 0, fun _ => ⟨fun _ => 0, fun _ => 0, 0⟩, h0, fun k hk => absurd hk (by omega), Nat.le_refl _⟩
  · injection hcs with hcs
    refine ⟨some a, len, cap, fun k => ⟨fun q => numAt w (a.add (k * 7 + 2 * q)), fun q => numAt w (a.add (k * 7 + (2 * q + 1))), numAt w (a.add (k * 7 + 6))⟩, hcs, fun k hk => ?_, hl⟩
    have hn := nums_at (hc k hk)
    have c0 := hn 0 (by decide)
    have c1 := hn 1 (by decide)
    have c2 := hn 2 (by decide)
    have c3 := hn 3 (by decide)
    have c4 := hn 4 (by decide)
    have c5 := hn 5 (by decide)
    have c6 := hn 6 (by decide)
    have hsp : a.spot = none := by
      have := nums_at (hc 0 (by omega)) 0 (by decide)
      simpa [Addr.add] using World.cell?_spot this
    obtain ⟨b, o, sp⟩ := a
    simp only at hsp
    subst hsp
    simp only [lit_add] at *
    exact ⟨b, o, rfl, World.block_lt_of_cell? w _ c0, c0, c1, c2, c3, c4, c5, c6⟩
set_option maxRecDepth 100000 in
theorem open_wgrow {fuel : Nat} {v : Value} {x : DataW H × List MemPlace} (h : DataW.trod enc Tryz.prog w base spare held fuel 24 [v] = some x) : ∃ A n c P, v = .slice A n c ∧ WgRow w w.heap.size A n P ∧ n ≤ c := by
  rcases open_cellsQ (Q := fun cs => NumCs cs 4) wgs_under cells_wg (fun f cs x h => num_wg h) h with h0 | ⟨a, len, cap, hcs, hl, hc⟩
  · injection h0 with h0
    exact ⟨none, 0, 0, fun _ => ⟨0, 0, 0, 0⟩, h0, fun k hk => absurd hk (by omega), Nat.le_refl _⟩
  · injection hcs with hcs
    refine ⟨some a, len, cap, fun k => ⟨numAt w (a.add (k * 4 + 0)), numAt w (a.add (k * 4 + 1)), numAt w (a.add (k * 4 + 2)), numAt w (a.add (k * 4 + 3))⟩, hcs, fun k hk => ?_, hl⟩
    have hn := nums_at (hc k hk)
    have c0 := hn 0 (by decide)
    have c1 := hn 1 (by decide)
    have c2 := hn 2 (by decide)
    have c3 := hn 3 (by decide)
    have hsp : a.spot = none := by
      have := nums_at (hc 0 (by omega)) 0 (by decide)
      simpa [Addr.add] using World.cell?_spot this
    obtain ⟨b, o, sp⟩ := a
    simp only at hsp
    subst hsp
    simp only [lit_add] at *
    exact ⟨b, o, rfl, World.block_lt_of_cell? w _ c0, c0, c1, c2, c3⟩
set_option maxRecDepth 100000 in
theorem open_introwT {t e : TypeId} (ht : Tryz.prog.underlying t = some (.slice e)) (he : Tryz.prog.underlying e = some (.int .i64)) (hC : Tryz.prog.cellsOf e = 1) {fuel : Nat} {v : Value} {x : DataW H × List MemPlace} (h : DataW.trod enc Tryz.prog w base spare held fuel t [v] = some x) : ∃ A n c X, v = .slice A n c ∧ IntRow w w.heap.size A n X ∧ n ≤ c := by
  rcases open_cellsQ (Q := fun cs => NumCs cs 1) ht hC (fun f cs x h => num_one he h) h with h0 | ⟨a, len, cap, hcs, hl, hc⟩
  · injection h0 with h0
    exact ⟨none, 0, 0, fun _ => 0, h0, fun k hk => absurd hk (by omega), Nat.le_refl _⟩
  · injection hcs with hcs
    refine ⟨some a, len, cap, fun k => numAt w (a.add (k * 1 + 0)), hcs, fun k hk => ?_, hl⟩
    have c0 := nums_at (hc k hk) 0 (by decide)
    have hsp : a.spot = none := by
      have := nums_at (hc 0 (by omega)) 0 (by decide)
      simpa [Addr.add] using World.cell?_spot this
    obtain ⟨b, o, sp⟩ := a
    simp only at hsp
    subst hsp
    simp only [lit_add, Nat.mul_one, Nat.add_zero] at *
    exact ⟨b, o, rfl, World.block_lt_of_cell? w _ c0, c0⟩
/-- a row as it is passed -/
def RowIn (w : World) (r : Rw) (bA : Option Addr) (bc : Nat) (dA : Option Addr) (dc : Nat) (vA : Option Addr) (vc : Nat) : Prop :=
  BnRow w w.heap.size bA r.n r.B ∧ IntRow w w.heap.size dA r.d r.D ∧ WgRow w w.heap.size vA r.m r.V ∧ r.n ≤ bc ∧ r.d ≤ dc ∧ r.m ≤ vc
set_option maxRecDepth 100000 in
/-- a row by value -/
theorem open_brow {r : Reach} {b0 : Nat} {v : Value} {d : DataW H} {p : List MemPlace} (hv : Value.okWide Tryz.prog w r b0 26 v) (h : DataW.Trod enc Tryz.prog w base spare held 26 v d p) :
    ∃ (r : Rw) (bA dA vA : Option Addr) (bc dc vc : Nat), v = rwV bA r.n bc dA r.d dc vA r.m vc ∧ RowIn w r bA bc dA dc vA vc := by
  obtain ⟨v0, v1, v2, y0, y1, y2, n, rfl, _, _, h0, h1, h2⟩ := open_agg3 Tryz.underlying26 (by kernel_rfl) (by kernel_rfl) hv h
  obtain ⟨bA, bn, bc, B, rfl, hb, hbc⟩ := open_bnrow h0
  obtain ⟨dA, dn, dc, D, rfl, hd, hdc⟩ := open_introwT (t := 23) (e := 52) (by kernel_rfl) kind_under cells_kd h1
  obtain ⟨vA, vn, vc, V, rfl, hw, hvc⟩ := open_wgrow h2
  exact ⟨⟨bn, B, dn, D, vn, V⟩, bA, dA, vA, bc, dc, vc, rfl, hb, hd, hw, hbc, hdc, hvc⟩
end
end Go.Proofs.YtnnikeolgknfoaaGreat

set_option linter.unusedSimpArgs false
set_option linter.unusedVariables false
namespace Go.Proofs.YtnnikeolgknfoaaGreat
open Go.RowKit Go.Shelf

theorem cell_set_same {w : World} {p : Addr} {u v : Value} (h : w.cell? p = some v) : (w.setCell p u).cell? p = some u := World.cell?_setCell_same' _ _ _ (by rw [h]; rfl)
theorem cell_set_is {w : World} {p : Addr} {u : Value} (h : (w.cell? p).isSome = true) : (w.setCell p u).cell? p = some u := World.cell?_setCell_same' _ _ _ h
theorem has_of {w : World} {a : Addr} {v : Value} (h : w.cell? a = some v) : (w.cell? a).isSome = true := by rw [h]; rfl
theorem has_set {w : World} {p a : Addr} {u : Value} (h : (w.cell? a).isSome = true) : ((w.setCell p u).cell? a).isSome = true := by
  by_cases e : p = a
  · subst e
    rw [World.cell?_setCell_same' _ _ _ h]; rfl
  · rw [World.cell?_setCell_other _ _ _ _ (by first | exact e | exact fun h => e h.symm)]; exact h
theorem has_alloc {w : World} {o : Obj} {a : Addr} (h : (w.cell? a).isSome = true) : ((w.alloc o).cell? a).isSome = true := by
  obtain ⟨v, hv⟩ := Option.isSome_iff_exists.1 h
  exact has_of (Ka o hv)
theorem has_new {w : World} {cs : Array Value} {t : TypeId} {n i : Nat} (hn : n = w.heap.size) (hi : i < cs.size) : ((w.alloc (.cells cs t)).cell? ⟨n, i, none⟩).isSome = true :=
  has_of (Kw hn (Array.getElem?_eq_getElem hi))
theorem cell_set_off {w : World} {b i j : Nat} {u v : Value} (hne : i ≠ j) (h : w.cell? ⟨b, i, none⟩ = some v) : (w.setCell ⟨b, j, none⟩ u).cell? ⟨b, i, none⟩ = some v := by
  rw [World.cell?_setCell_other _ _ _ _ (by intro e; injection e with _ e _; omega)]; exact h
theorem setCell_os (w : World) (a : Addr) (v : Value) : (w.setCell a v).os = w.os := rfl
theorem setCell_tape (w : World) (a : Addr) (v : Value) : (w.setCell a v).tape = w.tape := rfl
theorem setCell_output (w : World) (a : Addr) (v : Value) : (w.setCell a v).output = w.output := rfl
theorem alloc_os (w : World) (o : Obj) : (w.alloc o).os = w.os := rfl
theorem alloc_tape (w : World) (o : Obj) : (w.alloc o).tape = w.tape := rfl
theorem alloc_output (w : World) (o : Obj) : (w.alloc o).output = w.output := rfl
theorem setCell_size (w : World) (a : Addr) (v : Value) : (w.setCell a v).heap.size = w.heap.size := by simp [World.setCell]
theorem sps_post {n : Nat} {X : Nat → Sp} {er : Int} {W W' : World} {e : Ending} (h : SpsPost n X er W e W') : ∃ (A : Option Addr) (c m : Nat), e = .returned (.tuple #[.slice A m c, .int .i64 er]) ∧ SpRow W' W'.heap.size A m X ∧ m = (if er = 0 then n else 0) ∧ Below W.heap.size W W' := by
  by_cases he : er = 0
  · obtain ⟨A, c, e0, hr, _, hb⟩ := sps_of h he
    exact ⟨A, c, n, by rw [e0, he], hr, by rw [if_pos he], hb⟩
  · rcases h with ⟨h0, _⟩ | ⟨_, e0, hb⟩
    · exact absurd h0 he
    · exact ⟨none, 0, 0, e0, fun k hk => absurd hk (by omega), by rw [if_neg he], hb⟩
structure Rd where
  bA : Option Addr
  dA : Option Addr
  vA : Option Addr
  bc : Nat
  dc : Nat
  vc : Nat
def Rd.v (d : Rd) (r : Rw) : Value := rwV d.bA r.n d.bc d.dA r.d d.dc d.vA r.m d.vc
def Rd.at (d : Rd) (w : World) (b : Nat) (r : Rw) : Prop := RwAt w b r d.bA d.bc d.dA d.dc d.vA d.vc
def Rd.row (d : Rd) (w : World) (r : Rw) : Prop := RwRow w w.heap.size r d.bA d.bc d.dA d.dc d.vA d.vc
structure OwnRw (w : World) (lo : Nat) (r : Rw) (d : Rd) : Prop where
  b : OwnBn w lo d.bA r.n r.B
  q : OwnInt w lo d.dA r.d r.D
  v : OwnWg w lo d.vA r.m r.V
  c : r.n ≤ d.bc ∧ r.d ≤ d.dc ∧ r.m ≤ d.vc
theorem OwnRw.keep {w w' : World} {lo : Nat} {r : Rw} {d : Rd} (h : OwnRw w lo r d) (hk : ∀ b, lo ≤ b → b < w.heap.size → w'.heap[b]? = w.heap[b]?) : OwnRw w' lo r d := ⟨h.b.keep hk, h.q.keep hk, h.v.keep hk, h.c⟩
theorem OwnRw.row {w : World} {lo : Nat} {r : Rw} {d : Rd} (h : OwnRw w lo r d) (h1 : r.n ≤ 1000) (h2 : r.d ≤ 1000) (h3 : r.m ≤ 1000) : d.row w r := ⟨Nat.le_refl _, h.b.row, h.q.row, h.v.row, h1, h2, h3, h.c.1, h.c.2.1, h.c.2.2⟩
theorem OwnPost.own {r : Rw} {W W' : World} {e : Ending} (h : OwnPost r W e W') : ∃ (bA dA vA : Option Addr) (bc dc vc : Nat), e = .returned (rwV bA r.n bc dA r.d dc vA r.m vc) ∧ OwnRw W' W.heap.size r ⟨bA, dA, vA, bc, dc, vc⟩ ∧ Below W.heap.size W W' := by
  obtain ⟨bA, dA, vA, bc, dc, vc, h1, h2, h3, h4, h5, h6⟩ := h
  obtain ⟨A, c, e1, ho, hc⟩ := OwnWg.of h4
  injection e1 with e1 _ e3
  subst e1 e3
  exact ⟨bA, dA, vA, bc, dc, vc, h1, ⟨h2, h3, ho, h5⟩, h6⟩
theorem TheirPost.own {r : Rw} {W W' : World} {e : Ending} (h : TheirPost r W e W') : ∃ (bA dA vA : Option Addr) (bc dc vc : Nat), e = .returned (rwV bA r.n bc dA r.d dc vA r.m vc) ∧ OwnRw W' W.heap.size r ⟨bA, dA, vA, bc, dc, vc⟩ ∧ Below W.heap.size W W' := by
  obtain ⟨bA, dA, vA, bc, dc, vc, h1, h2, h3, h4, h5, h6⟩ := h
  exact ⟨bA, dA, vA, bc, dc, vc, h1, ⟨h2, h3, h4, h5⟩, h6⟩
/-- the row, its copy, and that of the reference, in their boxes -/
structure LawB (W w : World) (r : Rw) (b1 b2 : Nat) (d d1 d2 : Rd) : Prop where
  s0 : d.at w W.heap.size r
  s1 : d1.at w b1 r
  s2 : d2.at w b2 r
  r0 : d.row w r
  r1 : d1.row w r
  r2 : d2.row w r
  l : Below W.heap.size W w
theorem LawB.later {W w w' : World} {r : Rw} {b1 b2 : Nat} {d d1 d2 : Rd} (h : LawB W w r b1 b2 d d1 d2) (hb : Below w.heap.size w w') : LawB W w' r b1 b2 d d1 d2 :=
  ⟨RwAt.later h.s0 hb, RwAt.later h.s1 hb, RwAt.later h.s2 hb, RwRow.onW h.r0 hb, RwRow.onW h.r1 hb, RwRow.onW h.r2 hb, h.l.trans (hb.mono h.l.size)⟩
theorem lawb_close {r : Rw} {d d1 d2 : Rd} {lop lot b1 b2 : Nat} {W w1 wp wm wt wX : World} (H0 : d.row W r) (HB1 : Below W.heap.size W w1) (h0 : W.heap.size < w1.heap.size) (hA : d.at w1 W.heap.size r)
    (hP : Below w1.heap.size w1 wp) (hM : Below wp.heap.size wp wm) (hT : Below wm.heap.size wm wt) (hop : OwnRw wp lop r d1) (htp : OwnRw wt lot r d2)
    (hos : wX.os = wt.os) (htape : wX.tape = wt.tape) (hout : wX.output = wt.output) (hsz : wt.heap.size ≤ wX.heap.size)
    (hF : ∀ i, i < wt.heap.size → i ≠ b1 → i ≠ b2 → wX.heap[i]? = wt.heap[i]?)
    (k1 : w1.heap.size ≤ b1 ∧ (b1 < lop ∨ wp.heap.size ≤ b1) ∧ (b1 < lot ∨ wt.heap.size ≤ b1)) (k2 : w1.heap.size ≤ b2 ∧ (b2 < lop ∨ wp.heap.size ≤ b2) ∧ (b2 < lot ∨ wt.heap.size ≤ b2))
    (s1 : d1.at wX b1 r) (s2 : d2.at wX b2 r) :
    LawB W wX r b1 b2 d d1 d2 ∧ ∀ i, i < wm.heap.size → i ≠ b1 → i ≠ b2 → wX.heap[i]? = wm.heap[i]? := by
  have z1 := HB1.size
  have z2 := hP.size
  have z3 := hM.size
  have z4 := hT.size
  have eT : ∀ i, i < wm.heap.size → i ≠ b1 → i ≠ b2 → wX.heap[i]? = wm.heap[i]? := fun i hi h1 h2 => (hF i (by omega) h1 h2).trans (hT.block i hi)
  have eM : ∀ i, i < wp.heap.size → i ≠ b1 → i ≠ b2 → wX.heap[i]? = wp.heap[i]? := fun i hi h1 h2 => (eT i (by omega) h1 h2).trans (hM.block i hi)
  have eP : ∀ i, i < w1.heap.size → wX.heap[i]? = w1.heap[i]? := fun i hi => (eM i (by omega) (by omega) (by omega)).trans (hP.block i hi)
  have BX : Below W.heap.size W wX := HB1.trans ⟨hos.trans (hT.os.trans (hM.os.trans hP.os)), htape.trans (hT.tape.trans (hM.tape.trans hP.tape)), hout.trans (hT.output.trans (hM.output.trans hP.output)), by omega, fun i hi => eP i (by omega)⟩
  exact ⟨⟨RwAt.same hA (eP _ h0), s1, s2, RwRow.onW H0 BX,
    (hop.keep (fun b hl hb => eM b hb (by omega) (by omega))).row H0.n1 H0.d1 H0.m1,
    (htp.keep (fun b hl hb => hF b hb (by omega) (by omega))).row H0.n1 H0.d1 H0.m1, BX⟩, eT⟩
theorem lawb_close3 {r : Rw} {d d1 d2 : Rd} {lop lom lot b1 b2 : Nat} {W w1 wp wm wt wX : World} {cA mA : Option Addr} {n : Nat} {X : Nat → Int} (H0 : d.row W r) (HB1 : Below W.heap.size W w1) (h0 : W.heap.size < w1.heap.size) (hA : d.at w1 W.heap.size r)
    (hP : Below w1.heap.size w1 wp) (hM : Below wp.heap.size wp wm) (hT : Below wm.heap.size wm wt) (hop : OwnRw wp lop r d1) (htp : OwnRw wt lot r d2) (hc : IntRow W W.heap.size cA n X) (hom : OwnInt wm lom mA n X)
    (hos : wX.os = wt.os) (htape : wX.tape = wt.tape) (hout : wX.output = wt.output) (hsz : wt.heap.size ≤ wX.heap.size)
    (hF : ∀ i, i < wt.heap.size → i ≠ b1 → i ≠ b2 → wX.heap[i]? = wt.heap[i]?)
    (k1 : w1.heap.size ≤ b1 ∧ (b1 < lop ∨ wp.heap.size ≤ b1) ∧ (b1 < lot ∨ wt.heap.size ≤ b1)) (k2 : w1.heap.size ≤ b2 ∧ (b2 < lop ∨ wp.heap.size ≤ b2) ∧ (b2 < lot ∨ wt.heap.size ≤ b2)) (k3 : (b1 < lom ∨ wm.heap.size ≤ b1) ∧ (b2 < lom ∨ wm.heap.size ≤ b2))
    (s1 : d1.at wX b1 r) (s2 : d2.at wX b2 r) :
    Hid (LawB W wX r b1 b2 d d1 d2) ∧ Hid (IntRow wX wX.heap.size cA n X) ∧ Hid (IntRow wX wX.heap.size mA n X) := by
  obtain ⟨h1, h2⟩ := lawb_close H0 HB1 h0 hA hP hM hT hop htp hos htape hout hsz hF k1 k2 s1 s2
  exact ⟨Lib.hid h1, Lib.hid ((hc.below h1.l).mono h1.l.size), Lib.hid (hom.keep (fun b hl hb => h2 b hb (by omega) (by omega))).row⟩
theorem RowIn.row {w : World} {r : Rw} {bA : Option Addr} {bc : Nat} {dA : Option Addr} {dc : Nat} {vA : Option Addr} {vc : Nat} (h : RowIn w r bA bc dA dc vA vc) (hl : r.longB = false) : RwRow w w.heap.size r bA bc dA dc vA vc := by
  unfold Rw.longB at hl
  simp only [Bool.or_eq_false_iff, decide_eq_false_iff_not] at hl
  obtain ⟨h1, h2, h3, h4, h5, h6⟩ := h
  exact ⟨Nat.le_refl _, h1, h2, h3, by omega, by omega, by omega, h4, h5, h6⟩
end Go.Proofs.YtnnikeolgknfoaaGreat

set_option linter.unusedSimpArgs false
set_option linter.unusedVariables false
namespace Go.Proofs.YtnnikeolgknfoaaGreat
open Go.RowKit Go.Shelf

set_option maxRecDepth 100000 in
set_option maxHeartbeats 4000000 in
theorem rfacts_any (r : Rw) (A : Option Addr) (n c : Nat) (P : Nat → Fc) (hn63 : n ≤ 1000000000) (bA dA vA : Option Addr) (bc dc vc : Nat) (W : World) (hrn : r.n ≤ 1000 ∧ r.m ≤ 1000) (hP : FcRow W W.heap.size A n P) :
    Calls Tryz.prog 108 #[rwV bA r.n bc dA r.d dc vA r.m vc, .slice A n c] W fun e W' => e = .returned (.int .i64 (r.knownErr n P)) ∧ Below W.heap.size W W' := by
  have HP := Lib.hid hP
  have e1 : IntKind.i64.wrap ((r.n : Int) - 1) = (r.n : Int) - 1 := IntWalk.i64_in _ (by omega)
  have e2 : IntKind.i64.wrap ((r.m : Int) - 1) = (r.m : Int) - 1 := IntWalk.i64_in _ (by omega)
  clear hP
  by_cases h20 : 20 < n
  · have HF : Hid (r.knownErr n P = 3) := Lib.hid (by unfold Rw.knownErr; rw [if_pos h20])
    have h20' : (20 : Int) < (n : Int) := by omega
    go_enter Tryz.func108, Tryz.ntmps108
    go_wp2_with fail
    go_ret
    exact ⟨by rw [HF.out]; rfl, (by repeat (first | (with_reducible first | exact Below.refl _ _ | refine Below.drew ?_ | refine below_drewN ?_ _) | ((with_reducible first | refine Lc ?_ ?_ _ | refine Ls ?_ ?_ _ | refine Lv (by assumption) ?_ ?_); · first | exact Nat.le_refl _ | omega | (simp; done) | (simp; omega) | (simp at *; omega))))⟩
  · have hno : ¬ (20 : Int) < (n : Int) := by omega
    have hall : r.knownErr n P = if allN (fun k => r.knows (P k)) n = false then 2 else 0 := by unfold Rw.knownErr; rw [if_neg h20]
    have HALL := Lib.hid hall
    clear hall
    go_enter Tryz.func108, Tryz.ntmps108
    go_upto_region 1 with fail
    refine wp_world (fun w' => RwAt w' W.heap.size r bA bc dA dc vA vc ∧ Below W.heap.size W w') ⟨⟨(by (repeat' refine And.intro ?_ ?_) <;> (repeat (first | with_reducible assumption | (simp; done) | (with_reducible first | refine Kd ?_ | refine Kn ?_ | refine Kb (by assumption) ?_) | ((with_reducible first | refine Kw ?_ ?_ | refine Fw ?_) <;> first | with_reducible rfl | (simp; done)) | (with_reducible first | refine Ka _ ?_ | refine Ks _ (by first | exact Nat.le_refl _ | omega | (simp; done) | (simp; omega)) ?_ | refine Fd ?_ | refine Fn ?_ | refine Fb (by assumption) (by first | exact Nat.le_refl _ | omega | (simp; done) | (simp; omega)) ?_ | refine Fa _ (by first | exact Nat.le_refl _ | omega | (simp; done) | (simp; omega)) ?_ | refine Fs _ ?_)))), (by (repeat' refine And.intro ?_ ?_) <;> (repeat (first | with_reducible assumption | (simp; done) | (with_reducible first | refine Kd ?_ | refine Kn ?_ | refine Kb (by assumption) ?_) | ((with_reducible first | refine Kw ?_ ?_ | refine Fw ?_) <;> first | with_reducible rfl | (simp; done)) | (with_reducible first | refine Ka _ ?_ | refine Ks _ (by first | exact Nat.le_refl _ | omega | (simp; done) | (simp; omega)) ?_ | refine Fd ?_ | refine Fn ?_ | refine Fb (by assumption) (by first | exact Nat.le_refl _ | omega | (simp; done) | (simp; omega)) ?_ | refine Fa _ (by first | exact Nat.le_refl _ | omega | (simp; done) | (simp; omega)) ?_ | refine Fs _ ?_)))), (by (repeat' refine And.intro ?_ ?_) <;> (repeat (first | with_reducible assumption | (simp; done) | (with_reducible first | refine Kd ?_ | refine Kn ?_ | refine Kb (by assumption) ?_) | ((with_reducible first | refine Kw ?_ ?_ | refine Fw ?_) <;> first | with_reducible rfl | (simp; done)) | (with_reducible first | refine Ka _ ?_ | refine Ks _ (by first | exact Nat.le_refl _ | omega | (simp; done) | (simp; omega)) ?_ | refine Fd ?_ | refine Fn ?_ | refine Fb (by assumption) (by first | exact Nat.le_refl _ | omega | (simp; done) | (simp; omega)) ?_ | refine Fa _ (by first | exact Nat.le_refl _ | omega | (simp; done) | (simp; omega)) ?_ | refine Fs _ ?_))))⟩, (by repeat (first | (with_reducible first | exact Below.refl _ _ | assumption | refine Below.drew ?_) | ((with_reducible first | refine Lc ?_ ?_ _ | refine Ls ?_ ?_ _ | refine Lv (by assumption) ?_ ?_); · first | exact Nat.le_refl _ | omega | (dsimp only; omega) | (simp only [World.size_alloc, World.size_drew, World.heap_drewN]; omega) | (simp; omega))))⟩ ?_
    rintro w1 ⟨ha1, hb1⟩
    have HA := Lib.hid ha1
    have HB1 := Lib.hid hb1
    have HP1 := Lib.hid (HP.out.below hb1)
    clear ha1 hb1
    go_wp2_with fail
    go_loopw [5] (fun i wr => ∃ k : Nat, k ≤ n ∧ i = .int .i64 k ∧ Hid (∀ j, j < k → r.knows (P j) = true) ∧ wr = w1) (fun i _ => n - (intOf i).toNat)
    case atStart => exact ⟨0, Nat.zero_le _, rfl, Lib.hid (fun j hj => absurd hj (by omega)), rfl⟩
    case round =>
      obtain ⟨k, hk, rfl, HK, rfl⟩ := hrel
      obtain ⟨a0, a1, a2⟩ := HA.out
      by_cases hlt : k < n
      · have hk0 : (0 : Int) ≤ (k : Int) := by omega
        have hkn : (k : Int) < (n : Int) := by omega
        have ek : IntKind.i64.wrap ((k : Int) + 1) = (k : Int) + 1 := IntWalk.i64_in _ (by omega)
        obtain ⟨b, o, rfl, hb, d0, d1, d2⟩ := HP1.out k hlt
        obtain ⟨f, hf⟩ : ∃ f, f = P k := ⟨_, rfl⟩
        rw [← hf] at d0 d1 d2
        have HFF := Lib.hid hf
        clear hf
        have hkn' : r.knows f = if f.w then inB f.i 0 ((r.m : Int) - 1) else inB f.i 0 ((r.n : Int) - 1) := rfl
        cases hw : f.w with
        | true =>
          rw [hw] at d0 hkn'
          rw [if_pos rfl] at hkn'
          cases hin : inB f.i 0 ((r.m : Int) - 1) with
          | true =>
            have HU := Lib.hid (hkn'.trans hin)
            clear hkn'
            go_wp2_with (go_at_call 89; refine (off_any _ _ _ _).mono ?_; rintro e w' ⟨rfl, rfl⟩)
            go_roundw
            case rel => exact ⟨k + 1, by omega, by go_num, Lib.hid (all_put HK.out (by rw [← HFF.out]; exact HU.out)), (by first | rfl | trivial)⟩
            case measure => simp [intOf]; omega
          | false =>
            have HR : Hid (r.knownErr n P = 2) := Lib.hid (by rw [HALL.out, if_pos (allF (k := k) hlt (by rw [← HFF.out]; exact hkn'.trans hin))])
            clear hkn'
            go_wp2_with (go_at_call 89; refine (off_any _ _ _ _).mono ?_; rintro e w' ⟨rfl, rfl⟩)
            go_ret
            exact ⟨by rw [HR.out]; rfl, HB1.out⟩
        | false =>
          rw [hw] at d0 hkn'
          rw [if_neg (by decide)] at hkn'
          cases hin : inB f.i 0 ((r.n : Int) - 1) with
          | true =>
            have HU := Lib.hid (hkn'.trans hin)
            clear hkn'
            go_wp2_with (go_at_call 89; refine (off_any _ _ _ _).mono ?_; rintro e w' ⟨rfl, rfl⟩)
            go_roundw
            case rel => exact ⟨k + 1, by omega, by go_num, Lib.hid (all_put HK.out (by rw [← HFF.out]; exact HU.out)), (by first | rfl | trivial)⟩
            case measure => simp [intOf]; omega
          | false =>
            have HR : Hid (r.knownErr n P = 2) := Lib.hid (by rw [HALL.out, if_pos (allF (k := k) hlt (by rw [← HFF.out]; exact hkn'.trans hin))])
            clear hkn'
            go_wp2_with (go_at_call 89; refine (off_any _ _ _ _).mono ?_; rintro e w' ⟨rfl, rfl⟩)
            go_ret
            exact ⟨by rw [HR.out]; rfl, HB1.out⟩
      · have hk' : k = n := by omega
        have hge : ¬ (k : Int) < (n : Int) := by omega
        have HR : Hid (r.knownErr n P = 0) := Lib.hid (by rw [HALL.out, if_neg (by rw [allN_iff.2 (fun j hj => HK.out j (by omega))]; decide)])
        go_wp2_with fail
        go_ret
        exact ⟨by rw [HR.out]; rfl, HB1.out⟩

/-- a walk followed from a place -/
def Rw.rfolN (r : Rw) (P : Nat → Fc) (x : Int) : Nat → Option (Int × Int)
  | 0 => some (x, 0)
  | k + 1 => match r.rfolN P x k with
    | none => none
    | some y => if r.from_ (P k) = y.1 then some (r.to_ (P k), y.2 + r.num (P k)) else none
def Rw.rflR (r : Rw) (P : Nat → Fc) (n : Nat) (x y : Int) : Int × Bool := match r.rfolN P x n with
  | none => (0, false)
  | some z => (z.2, decide (0 < n) && decide (z.1 = y))
theorem Rw.rfol_none {r : Rw} {P : Nat → Fc} {x : Int} {k : Nat} (h : r.rfolN P x k = none) : ∀ d, r.rfolN P x (k + d) = none
  | 0 => h
  | d + 1 => by
    rw [← Nat.add_assoc]
    unfold Rw.rfolN
    rw [Rw.rfol_none h d]
theorem Rw.rfol_fol {r : Rw} {P : Nat → Fc} {x : Int} : ∀ k, r.rfolN P x (k + 1) = match r.fol P (k + 1) with
    | none => none
    | some y => if y.1 = x then some (y.2.1, y.2.2) else none
  | 0 => by
    show (if r.from_ (P 0) = x then some (r.to_ (P 0), 0 + r.num (P 0)) else none) = _
    unfold Rw.fol Rw.fol
    simp
  | k + 1 => by
    have ih := Rw.rfol_fol (r := r) (P := P) (x := x) k
    unfold Rw.rfolN
    rw [ih]
    have hs : r.fol P (k + 1 + 1) = match r.fol P (k + 1) with
      | none => none
      | some y => if r.from_ (P (k + 1)) = y.2.1 then some (y.1, r.to_ (P (k + 1)), y.2.2 + r.num (P (k + 1))) else none := by
      conv => lhs; unfold Rw.fol
      cases r.fol P (k + 1) with
      | none => rfl
      | some y => simp
    rw [hs]
    cases r.fol P (k + 1) with
    | none => rfl
    | some y =>
      dsimp only
      by_cases h1 : y.1 = x
      · rw [if_pos h1]
        dsimp only
        by_cases h2 : r.from_ (P (k + 1)) = y.2.1
        · rw [if_pos h2, if_pos h2]
          dsimp only
          rw [if_pos h1]
        · rw [if_neg h2, if_neg h2]
      · rw [if_neg h1]
        by_cases h2 : r.from_ (P (k + 1)) = y.2.1
        · rw [if_pos h2]
          dsimp only
          rw [if_neg h1]
        · rw [if_neg h2]
/-- followed from a place to another one -/
theorem Rw.rfl_follow {r : Rw} {P : Nat → Fc} {n : Nat} {x y : Int} : ((r.rflR P n x y).2 = true ↔ (r.followR P n).2.2.2 = true ∧ (r.followR P n).1 = x ∧ (r.followR P n).2.1 = y) ∧ ((r.rflR P n x y).2 = true → (r.rflR P n x y).1 = (r.followR P n).2.2.1) := by
  cases n with
  | zero =>
    have e1 : (r.rflR P 0 x y).2 = false := by
      show (decide (0 < 0) && decide (x = y)) = false
      simp
    have e2 : (r.followR P 0).2.2.2 = false := by
      show decide (0 < 0) = false
      simp
    rw [e1, e2]
    simp
  | succ n =>
    unfold Rw.rflR Rw.followR
    rw [Rw.rfol_fol n]
    cases r.fol P (n + 1) with
    | none => simp
    | some z =>
      dsimp only
      by_cases h1 : z.1 = x
      · rw [if_pos h1]
        dsimp only
        simp [h1]
      · rw [if_neg h1]
        simp [h1]
theorem Rw.rfol_bd {r : Rw} (hr : r.ok) {P : Nat → Fc} {x : Int} : ∀ (k : Nat) (y : Int × Int), (∀ j, j < k → r.has (P j)) → r.rfolN P x k = some y → -3100 * (k : Int) ≤ y.2 ∧ y.2 ≤ 3100 * (k : Int)
  | 0, y, _, h => by
    unfold Rw.rfolN at h
    injection h with h
    subst h
    simp
  | k + 1, y, hh, h => by
    unfold Rw.rfolN at h
    cases hk : r.rfolN P x k with
    | none => rw [hk] at h; cases h
    | some z =>
      rw [hk] at h
      have ih := Rw.rfol_bd hr k z (fun j hj => hh j (by omega)) hk
      have hb := Rw.ab_bd hr (hh k (by omega))
      dsimp only at h
      split at h
      · injection h with h
        subst h
        dsimp only
        omega
      · cases h

set_option maxRecDepth 100000 in
set_option maxHeartbeats 4000000 in
theorem rfollow_any (r : Rw) (hr : r.ok) (A : Option Addr) (n c : Nat) (P : Nat → Fc) (x y : Int) (bA dA vA : Option Addr) (bc dc vc : Nat) (W : World) (hrow : RwRow W W.heap.size r bA bc dA dc vA vc) (hP : FcRow W W.heap.size A n P) (hn : n ≤ 20) (hh : ∀ k, k < n → r.has (P k)) :
    Calls Tryz.prog 109 #[rwV bA r.n bc dA r.d dc vA r.m vc, .slice A n c, .int .i64 x, .int .i64 y] W fun e W' => e = .returned (.tuple #[.int .i64 (r.rflR P n x y).1, .bool (r.rflR P n x y).2]) ∧ Below W.heap.size W W' := by
  have H0 := Lib.hid hrow
  have HP := Lib.hid hP
  have HOK := Lib.hid hr
  have HH := Lib.hid hh
  clear hrow hP hr hh
  go_enter Tryz.func109, Tryz.ntmps109
  go_upto_region 1 with fail
  refine wp_world (fun w' => RwAt w' W.heap.size r bA bc dA dc vA vc ∧ Below W.heap.size W w') ⟨⟨(by (repeat' refine And.intro ?_ ?_) <;> (repeat (first | with_reducible assumption | (simp; done) | (with_reducible first | refine Kd ?_ | refine Kn ?_ | refine Kb (by assumption) ?_) | ((with_reducible first | refine Kw ?_ ?_ | refine Fw ?_) <;> first | with_reducible rfl | (simp; done)) | (with_reducible first | refine Ka _ ?_ | refine Ks _ (by first | exact Nat.le_refl _ | omega | (simp; done) | (simp; omega)) ?_ | refine Fd ?_ | refine Fn ?_ | refine Fb (by assumption) (by first | exact Nat.le_refl _ | omega | (simp; done) | (simp; omega)) ?_ | refine Fa _ (by first | exact Nat.le_refl _ | omega | (simp; done) | (simp; omega)) ?_ | refine Fs _ ?_)))), (by (repeat' refine And.intro ?_ ?_) <;> (repeat (first | with_reducible assumption | (simp; done) | (with_reducible first | refine Kd ?_ | refine Kn ?_ | refine Kb (by assumption) ?_) | ((with_reducible first | refine Kw ?_ ?_ | refine Fw ?_) <;> first | with_reducible rfl | (simp; done)) | (with_reducible first | refine Ka _ ?_ | refine Ks _ (by first | exact Nat.le_refl _ | omega | (simp; done) | (simp; omega)) ?_ | refine Fd ?_ | refine Fn ?_ | refine Fb (by assumption) (by first | exact Nat.le_refl _ | omega | (simp; done) | (simp; omega)) ?_ | refine Fa _ (by first | exact Nat.le_refl _ | omega | (simp; done) | (simp; omega)) ?_ | refine Fs _ ?_)))), (by (repeat' refine And.intro ?_ ?_) <;> (repeat (first | with_reducible assumption | (simp; done) | (with_reducible first | refine Kd ?_ | refine Kn ?_ | refine Kb (by assumption) ?_) | ((with_reducible first | refine Kw ?_ ?_ | refine Fw ?_) <;> first | with_reducible rfl | (simp; done)) | (with_reducible first | refine Ka _ ?_ | refine Ks _ (by first | exact Nat.le_refl _ | omega | (simp; done) | (simp; omega)) ?_ | refine Fd ?_ | refine Fn ?_ | refine Fb (by assumption) (by first | exact Nat.le_refl _ | omega | (simp; done) | (simp; omega)) ?_ | refine Fa _ (by first | exact Nat.le_refl _ | omega | (simp; done) | (simp; omega)) ?_ | refine Fs _ ?_))))⟩, (by repeat (first | (with_reducible first | exact Below.refl _ _ | assumption | refine Below.drew ?_) | ((with_reducible first | refine Lc ?_ ?_ _ | refine Ls ?_ ?_ _ | refine Lv (by assumption) ?_ ?_); · first | exact Nat.le_refl _ | omega | (dsimp only; omega) | (simp only [World.size_alloc, World.size_drew, World.heap_drewN]; omega) | (simp; omega))))⟩ ?_
  rintro w1 ⟨ha1, hb1⟩
  have HA := Lib.hid ha1
  have HB1 := Lib.hid hb1
  have hs1 := hb1.size
  clear ha1 hb1
  go_wp2_with fail
  go_loopw [10, 11, 12] (fun va vs i wr => ∃ (k : Nat) (at_ s : Int), k ≤ n ∧ i = .int .i64 k ∧ va = .int .i64 at_ ∧ vs = .int .i64 s ∧ (-3100 * (k : Int) ≤ s ∧ s ≤ 3100 * (k : Int)) ∧ Hid (r.rfolN P x k = some (at_, s)) ∧ Hid (Below w1.heap.size w1 wr)) (fun _ _ i _ => n - (intOf i).toNat)
  case atStart => exact ⟨0, x, 0, Nat.zero_le _, rfl, rfl, rfl, by omega, Lib.hid rfl, Lib.hid (Below.refl _ _)⟩
  case round =>
    obtain ⟨k, at_, s, hk, rfl, rfl, rfl, hs, HF, HB⟩ := hrel
    obtain ⟨wo, rfl⟩ : ∃ wo, wo = wr := ⟨_, rfl⟩
    have HBW := Lib.hid (HB1.out.trans (HB.out.mono hs1))
    obtain ⟨a0, a1, a2⟩ := HA.out.later HB.out
    by_cases hlt : k < n
    · have hk0 : (0 : Int) ≤ (k : Int) := by omega
      have hkn : (k : Int) < (n : Int) := by omega
      have ek : IntKind.i64.wrap ((k : Int) + 1) = (k : Int) + 1 := IntWalk.i64_in _ (by omega)
      obtain ⟨b, o, rfl, hb, d0, d1, d2⟩ := (HP.out.below HBW.out) k hlt
      obtain ⟨f, hf⟩ : ∃ f, f = P k := ⟨_, rfl⟩
      have hfh : r.has f := by rw [hf]; exact HH.out k hlt
      have hbd := Rw.ab_bd HOK.out hfh
      rw [← hf] at d0 d1 d2
      have HSTP : Hid (r.rfolN P x (k + 1) = if r.from_ f = at_ then some (r.to_ f, s + r.num f) else none) := Lib.hid (by
        unfold Rw.rfolN
        rw [HF.out, ← hf])
      obtain ⟨p, hp⟩ : ∃ p, p = r.from_ f := ⟨_, rfl⟩
      obtain ⟨q, hq⟩ : ∃ q, q = r.to_ f := ⟨_, rfl⟩
      obtain ⟨z, hz⟩ : ∃ z, z = r.num f := ⟨_, rfl⟩
      rw [← hp, ← hq, ← hz] at HSTP
      have HCL : Hid (∀ w, Below wo.heap.size wo w → Calls Tryz.prog 136 #[rwV bA r.n bc dA r.d dc vA r.m vc, fcV f] w fun e W' => e = .returned (.tuple #[.int .i64 p, .int .i64 q, .int .i64 z]) ∧ Below w.heap.size w W') := Lib.hid (fun w hw => by
        rw [hp, hq, hz]
        exact rstep_any r HOK.out f hfh bA dA vA bc dc vc w (H0.out.onW (HBW.out.trans (hw.mono HBW.out.size))))
      have hz3 : -3100 ≤ z ∧ z ≤ 3100 := by rw [hz]; omega
      have ew : IntKind.i64.wrap (s + z) = s + z := IntWalk.i64_in _ (by omega)
      clear hf hfh hbd hp hq hz
      go_upto_region 5 with fail
      have y0 := cell_regrown a0
      have y1 := cell_regrown a1
      have y2 := cell_regrown a2
      have x0 := cell_regrown d0
      have x1 := cell_regrown d1
      have x2 := cell_regrown d2
      clear a0 a1 a2 d0 d1 d2
      refine region_qbw (by kernel_rfl) (by kernel_rfl) ?_
      repeat (first | go_big_quiet_step ((go_at_call 136; exact Calls.regrown_of (HCL.out _ (below_regrown _ _ _)))) | quiet_step ((go_at_call 136; exact Calls.regrown_of (HCL.out _ (below_regrown _ _ _)))))
      refine wpQuiet_nil ?_; intro wq hbq
      have HB2 := Lib.hid (HB.out.trans (hbq.mono HB.out.size))
      have HW2 := Lib.hid (HBW.out.trans (hbq.mono HBW.out.size))
      clear y0 y1 y2 x0 x1 x2 hbq
      by_cases hpa : p = at_
      · have g1 : (p != at_) = false := by simpa using hpa
        have HF2 : Hid (r.rfolN P x (k + 1) = some (q, s + z)) := Lib.hid (by rw [HSTP.out, if_pos hpa])
        clear hpa
        go_wp2_with fail
        refine ⟨?_, ?measure⟩
        case measure => simp [intOf]; omega
        exact ⟨k + 1, q, s + z, by omega, by go_num, rfl, rfl, by omega, HF2, HB2⟩
      · have g1 : (p != at_) = true := by simpa using hpa
        have HR : Hid (r.rflR P n x y = (0, false)) := Lib.hid (by
          have h1 : r.rfolN P x (k + 1) = none := by rw [HSTP.out, if_neg hpa]
          have h2 := Rw.rfol_none h1 (n - (k + 1))
          rw [show k + 1 + (n - (k + 1)) = n by omega] at h2
          unfold Rw.rflR
          rw [h2])
        clear hpa
        go_wp2_with fail
        go_ret2
        exact ⟨by rw [HR.out]; rfl, HW2.out⟩
    · obtain rfl : k = n := by omega
      have hge : ¬ (k : Int) < (k : Int) := by omega
      have HR : Hid (r.rflR P k x y = (s, decide (0 < k) && decide (at_ = y))) := Lib.hid (by unfold Rw.rflR; rw [HF.out])
      by_cases h0 : 0 < k
      · have g0 : (0 : Int) < (k : Int) := by omega
        by_cases h1 : at_ = y
        · have g1 : (at_ == y) = true := by simpa using h1
          have HR2 : Hid (r.rflR P k x y = (s, true)) := Lib.hid (by rw [HR.out]; simp [h0, h1])
          clear h1
          go_wp2_with fail
          go_ret2
          exact ⟨by rw [HR2.out]; rfl, HBW.out⟩
        · have g1 : (at_ == y) = false := by simpa using h1
          have HR2 : Hid (r.rflR P k x y = (s, false)) := Lib.hid (by rw [HR.out]; simp [h0, h1])
          clear h1
          go_wp2_with fail
          go_ret2
          exact ⟨by rw [HR2.out]; rfl, HBW.out⟩
      · have g0 : ¬ (0 : Int) < (k : Int) := by omega
        have HR2 : Hid (r.rflR P k x y = (s, false)) := Lib.hid (by rw [HR.out]; simp [h0])
        go_wp2_with fail
        go_ret2
        exact ⟨by rw [HR2.out]; rfl, HBW.out⟩
end Go.Proofs.YtnnikeolgknfoaaGreat

set_option linter.unusedSimpArgs false
set_option linter.unusedVariables false
namespace Go.Proofs.YtnnikeolgknfoaaGreat
open Go.RowKit Go.Shelf

theorem Rw.rfl_bd {r : Rw} (hr : r.ok) {P : Nat → Fc} {n : Nat} (hn : n ≤ 20) (hh : ∀ j, j < n → r.has (P j)) (x y : Int) : -62000 ≤ (r.rflR P n x y).1 ∧ (r.rflR P n x y).1 ≤ 62000 := by
  unfold Rw.rflR
  cases h : r.rfolN P x n with
  | none => simp
  | some z =>
    have := Rw.rfol_bd hr n z hh h
    dsimp only
    omega
/-- what a walk shows, from its ends -/
theorem Rw.shows_rfl {r : Rw} {f t : Int} {most : Bool} {n : Nat} {P : Nat → Fc} (h0 : r.check = 0) (h1 : r.binsErr f t = 0) (h2 : r.knownErr n P = 0) :
    r.showsR f t most n P = if (r.rflR P n (waysR f t most).1 (waysR f t most).2).2 = true then (if most then (r.rflR P n (waysR f t most).1 (waysR f t most).2).1 else -(r.rflR P n (waysR f t most).1 (waysR f t most).2).1, 0) else (0, 8) := by
  obtain ⟨h3, h4⟩ := Rw.rfl_follow (r := r) (P := P) (n := n) (x := (waysR f t most).1) (y := (waysR f t most).2)
  unfold Rw.showsR
  rw [if_neg (by rw [h0]; decide), if_neg (by rw [h1]; decide), if_neg (by rw [h2]; decide)]
  by_cases hc : (r.rflR P n (waysR f t most).1 (waysR f t most).2).2 = true
  · rw [if_pos hc, if_pos (h3.1 hc), h4 hc]
  · rw [if_neg hc, if_neg (fun e => hc (h3.2 e))]
/-- whether a walk contradicts, from its ends -/
theorem Rw.contra_rfl {r : Rw} (hr : r.ok) {n : Nat} {P : Nat → Fc} (h2 : r.knownErr n P = 0) :
    ((r.contraR n P).1 = true ↔ ∃ a : Nat, a ≤ r.n ∧ (r.rflR P n (a : Int) (a : Int)).2 = true ∧ (r.rflR P n (a : Int) (a : Int)).1 < 0) ∧ (r.contraR n P).2 = 0 := by
  obtain ⟨hn20, hh⟩ := Rw.known_ok h2
  have h0 := Rw.check_ok.2 hr
  unfold Rw.contraR
  rw [if_neg (by rw [h0]; decide), if_neg (by rw [h2]; decide)]
  refine ⟨?_, rfl⟩
  dsimp only
  simp only [Bool.and_eq_true, decide_eq_true_eq]
  constructor
  · rintro ⟨⟨g1, g2⟩, g3⟩
    have hn : 0 < n := by
      unfold Rw.followR at g1
      cases hf : r.fol P n with
      | none => rw [hf] at g1; cases g1
      | some z => rw [hf] at g1; exact of_decide_eq_true g1
    -- the walk begins at a place
    have hbeg : (r.followR P n).1 = r.from_ (P 0) := by
      obtain ⟨m, rfl⟩ : ∃ m, n = m + 1 := ⟨n - 1, by omega⟩
      have key : ∀ k, ∀ z, r.fol P (k + 1) = some z → z.1 = r.from_ (P 0) := by
        intro k
        induction k with
        | zero =>
          intro z hz
          unfold Rw.fol Rw.fol at hz
          simp at hz
          rw [← hz]
        | succ k ih =>
          intro z hz
          unfold Rw.fol at hz
          cases hk : r.fol P (k + 1) with
          | none => rw [hk] at hz; cases hz
          | some y =>
            rw [hk] at hz
            have := ih y hk
            simp at hz
            rw [← hz.2]
            exact this
      unfold Rw.followR at g1 ⊢
      cases hf : r.fol P (m + 1) with
      | none => rw [hf] at g1; cases g1
      | some z => exact key m z hf
    have hab := Rw.ab_bd hr (hh 0 hn)
    refine ⟨r.a (P 0), hab.1, ?_⟩
    obtain ⟨h3, h4⟩ := Rw.rfl_follow (r := r) (P := P) (n := n) (x := ((r.a (P 0) : Nat) : Int)) (y := ((r.a (P 0) : Nat) : Int))
    have hyes := h3.2 ⟨g1, by rw [hbeg, hab.2.2.2.2.2.1], by rw [← g2, hbeg, hab.2.2.2.2.2.1]⟩
    exact ⟨hyes, by rw [h4 hyes]; exact g3⟩
  · rintro ⟨a, ha, g1, g2⟩
    obtain ⟨h3, h4⟩ := Rw.rfl_follow (r := r) (P := P) (n := n) (x := (a : Int)) (y := (a : Int))
    obtain ⟨k1, k2, k3⟩ := h3.1 g1
    rw [h4 g1] at g2
    exact ⟨⟨k1, by rw [k2, k3]⟩, g2⟩

set_option maxRecDepth 100000 in
set_option maxHeartbeats 4000000 in
theorem rShows_any (r : Rw) (f t : Int) (most : Bool) (A : Option Addr) (n c : Nat) (P : Nat → Fc) (bA dA vA : Option Addr) (bc dc vc : Nat) (W : World) (hrow : RwRow W W.heap.size r bA bc dA dc vA vc) (hP : FcRow W W.heap.size A n P) (hn63 : n ≤ 1000000000) :
    Calls Tryz.prog 40 #[rwV bA r.n bc dA r.d dc vA r.m vc, .int .i64 f, .int .i64 t, .bool most, .slice A n c] W fun e W' => e = .returned (.tuple #[.int .i64 (r.showsR f t most n P).1, .int .i64 (r.showsR f t most n P).2]) ∧ Below W.heap.size W W' := by
  have H0 := Lib.hid hrow
  have HP := Lib.hid hP
  have hnm := And.intro hrow.n1 hrow.m1
  clear hrow hP
  go_enter Tryz.func40, Tryz.ntmps40
  go_upto_region 1 with fail
  refine wp_world (fun w' => RwAt w' W.heap.size r bA bc dA dc vA vc ∧ Below W.heap.size W w') ⟨⟨(by (repeat' refine And.intro ?_ ?_) <;> (repeat (first | with_reducible assumption | (simp; done) | (with_reducible first | refine Kd ?_ | refine Kn ?_ | refine Kb (by assumption) ?_) | ((with_reducible first | refine Kw ?_ ?_ | refine Fw ?_) <;> first | with_reducible rfl | (simp; done)) | (with_reducible first | refine Ka _ ?_ | refine Ks _ (by first | exact Nat.le_refl _ | omega | (simp; done) | (simp; omega)) ?_ | refine Fd ?_ | refine Fn ?_ | refine Fb (by assumption) (by first | exact Nat.le_refl _ | omega | (simp; done) | (simp; omega)) ?_ | refine Fa _ (by first | exact Nat.le_refl _ | omega | (simp; done) | (simp; omega)) ?_ | refine Fs _ ?_)))), (by (repeat' refine And.intro ?_ ?_) <;> (repeat (first | with_reducible assumption | (simp; done) | (with_reducible first | refine Kd ?_ | refine Kn ?_ | refine Kb (by assumption) ?_) | ((with_reducible first | refine Kw ?_ ?_ | refine Fw ?_) <;> first | with_reducible rfl | (simp; done)) | (with_reducible first | refine Ka _ ?_ | refine Ks _ (by first | exact Nat.le_refl _ | omega | (simp; done) | (simp; omega)) ?_ | refine Fd ?_ | refine Fn ?_ | refine Fb (by assumption) (by first | exact Nat.le_refl _ | omega | (simp; done) | (simp; omega)) ?_ | refine Fa _ (by first | exact Nat.le_refl _ | omega | (simp; done) | (simp; omega)) ?_ | refine Fs _ ?_)))), (by (repeat' refine And.intro ?_ ?_) <;> (repeat (first | with_reducible assumption | (simp; done) | (with_reducible first | refine Kd ?_ | refine Kn ?_ | refine Kb (by assumption) ?_) | ((with_reducible first | refine Kw ?_ ?_ | refine Fw ?_) <;> first | with_reducible rfl | (simp; done)) | (with_reducible first | refine Ka _ ?_ | refine Ks _ (by first | exact Nat.le_refl _ | omega | (simp; done) | (simp; omega)) ?_ | refine Fd ?_ | refine Fn ?_ | refine Fb (by assumption) (by first | exact Nat.le_refl _ | omega | (simp; done) | (simp; omega)) ?_ | refine Fa _ (by first | exact Nat.le_refl _ | omega | (simp; done) | (simp; omega)) ?_ | refine Fs _ ?_))))⟩, (by repeat (first | (with_reducible first | exact Below.refl _ _ | assumption | refine Below.drew ?_) | ((with_reducible first | refine Lc ?_ ?_ _ | refine Ls ?_ ?_ _ | refine Lv (by assumption) ?_ ?_); · first | exact Nat.le_refl _ | omega | (dsimp only; omega) | (simp only [World.size_alloc, World.size_drew, World.heap_drewN]; omega) | (simp; omega))))⟩ ?_
  rintro w0 ⟨ha0, hb0⟩
  have HA0 := Lib.hid ha0
  have HB0 := Lib.hid hb0
  obtain ⟨a0, a1, a2⟩ := ha0
  clear hb0
  go_wp2_with fail
  refine (rcheck_any r bA dA vA bc dc vc _ (H0.out.onW HB0.out)).mono ?_
  rintro e w1 ⟨rfl, hb1⟩
  have HA1 := Lib.hid (HA0.out.later hb1)
  have HB1 := Lib.hid (HB0.out.trans (hb1.mono HB0.out.size))
  clear hb1 HA0 HB0 a0 a1 a2
  obtain ⟨a0, a1, a2⟩ := HA1.out
  by_cases h0 : r.check = 0
  · rw [h0]
    have HE0 := Lib.hid h0
    have HOK := Lib.hid (Rw.check_ok.1 h0)
    clear h0
    go_wp2_with fail
    refine (rbins_any r hnm.1 f t bA dA vA bc dc vc _).mono ?_
    rintro e w2 ⟨rfl, hb2⟩
    have HA2 := Lib.hid (HA1.out.later hb2)
    have HB2 := Lib.hid (HB1.out.trans (hb2.mono HB1.out.size))
    clear hb2 HA1 HB1 a0 a1 a2
    obtain ⟨a0, a1, a2⟩ := HA2.out
    by_cases h1 : r.binsErr f t = 0
    · rw [h1]
      have HE1 := Lib.hid h1
      have hbo := Rw.bins_ok h1
      have hn6 := HOK.out.n6
      clear h1
      go_wp2_with fail
      refine (rfacts_any r A n c P hn63 bA dA vA bc dc vc _ hnm ((HP.out.below HB2.out).mono HB2.out.size)).mono ?_
      rintro e w3 ⟨rfl, hb3⟩
      have HA3 := Lib.hid (HA2.out.later hb3)
      have HB3 := Lib.hid (HB2.out.trans (hb3.mono HB2.out.size))
      clear hb3 HA2 HB2 a0 a1 a2
      obtain ⟨a0, a1, a2⟩ := HA3.out
      by_cases h2 : r.knownErr n P = 0
      · rw [h2]
        obtain ⟨hn20, hh⟩ := Rw.known_ok h2
        have HH := Lib.hid hh
        have HSR := Lib.hid (Rw.shows_rfl (most := most) HE0.out HE1.out h2)
        have hbd := Rw.rfl_bd HOK.out hn20 hh
        have et : IntKind.i64.wrap (t + 1) = t + 1 := IntWalk.i64_in _ (by omega)
        clear h2 hh
        cases most with
        | true =>
          have HSR2 : Hid (r.showsR f t true n P = if (r.rflR P n f (t + 1)).2 = true then ((r.rflR P n f (t + 1)).1, 0) else (0, 8)) := Lib.hid HSR.out
          clear HSR
          go_wp2_with fail
          refine (rfollow_any r HOK.out A n c P f (t + 1) bA dA vA bc dc vc _ (H0.out.onW HB3.out) ((HP.out.below HB3.out).mono HB3.out.size) hn20 HH.out).mono ?_
          rintro e w4 ⟨rfl, hb4⟩
          have HB4 := Lib.hid (HB3.out.trans (hb4.mono HB3.out.size))
          obtain ⟨⟨s, is⟩, hs⟩ : ∃ s, s = r.rflR P n f (t + 1) := ⟨_, rfl⟩
          rw [← hs] at HSR2 ⊢
          clear hb4 hs a0 a1 a2
          cases is with
          | true =>
            have HV : Hid (r.showsR f t true n P = (s, 0)) := Lib.hid (by rw [HSR2.out]; rfl)
            go_wp2_with fail
            go_ret2
            exact ⟨by rw [HV.out]; rfl, HB4.out⟩
          | false =>
            have HV : Hid (r.showsR f t true n P = (0, 8)) := Lib.hid (by rw [HSR2.out]; rfl)
            go_wp2_with fail
            go_ret2
            exact ⟨by rw [HV.out]; rfl, HB4.out⟩
        | false =>
          have HSR2 : Hid (r.showsR f t false n P = if (r.rflR P n (t + 1) f).2 = true then (-(r.rflR P n (t + 1) f).1, 0) else (0, 8)) := Lib.hid HSR.out
          clear HSR
          go_wp2_with fail
          refine (rfollow_any r HOK.out A n c P (t + 1) f bA dA vA bc dc vc _ (H0.out.onW HB3.out) ((HP.out.below HB3.out).mono HB3.out.size) hn20 HH.out).mono ?_
          rintro e w4 ⟨rfl, hb4⟩
          have HB4 := Lib.hid (HB3.out.trans (hb4.mono HB3.out.size))
          have hbd2 := hbd (t + 1) f
          obtain ⟨⟨s, is⟩, hs⟩ : ∃ s, s = r.rflR P n (t + 1) f := ⟨_, rfl⟩
          rw [← hs] at HSR2 hbd2 ⊢
          dsimp only at hbd2
          have es : IntKind.i64.wrap (-s) = -s := IntWalk.i64_in _ (by omega)
          clear hb4 hs a0 a1 a2 hbd
          cases is with
          | true =>
            have HV : Hid (r.showsR f t false n P = (-s, 0)) := Lib.hid (by rw [HSR2.out]; rfl)
            go_wp2_with fail
            go_ret2
            exact ⟨by rw [HV.out]; rfl, HB4.out⟩
          | false =>
            have HV : Hid (r.showsR f t false n P = (0, 8)) := Lib.hid (by rw [HSR2.out]; rfl)
            go_wp2_with fail
            go_ret2
            exact ⟨by rw [HV.out]; rfl, HB4.out⟩
      · have hne : (r.knownErr n P != 0) = true := by simpa using h2
        have HV : Hid (r.showsR f t most n P = (0, r.knownErr n P)) := Lib.hid (by unfold Rw.showsR; rw [if_neg (by rw [HE0.out]; decide), if_neg (by rw [HE1.out]; decide), if_pos h2])
        clear h2
        go_wp2_with fail
        go_ret2
        exact ⟨by rw [HV.out]; rfl, HB3.out⟩
    · have hne : (r.binsErr f t != 0) = true := by simpa using h1
      have HV : Hid (r.showsR f t most n P = (0, r.binsErr f t)) := Lib.hid (by unfold Rw.showsR; rw [if_neg (by rw [HE0.out]; decide), if_pos h1])
      clear h1
      go_wp2_with fail
      go_ret2
      exact ⟨by rw [HV.out]; rfl, HB2.out⟩
  · have hne : (r.check != 0) = true := by simpa using h0
    have HV : Hid (r.showsR f t most n P = (0, r.check)) := Lib.hid (by unfold Rw.showsR; rw [if_pos h0])
    clear h0
    go_wp2_with fail
    go_ret2
    exact ⟨by rw [HV.out]; rfl, HB1.out⟩

set_option maxRecDepth 100000 in
set_option maxHeartbeats 4000000 in
theorem rContradicts_any (r : Rw) (A : Option Addr) (n c : Nat) (P : Nat → Fc) (bA dA vA : Option Addr) (bc dc vc : Nat) (W : World) (hrow : RwRow W W.heap.size r bA bc dA dc vA vc) (hP : FcRow W W.heap.size A n P) (hn63 : n ≤ 1000000000) :
    Calls Tryz.prog 44 #[rwV bA r.n bc dA r.d dc vA r.m vc, .slice A n c] W fun e W' => e = .returned (.tuple #[.bool (r.contraR n P).1, .int .i64 (r.contraR n P).2]) ∧ Below W.heap.size W W' := by
  have H0 := Lib.hid hrow
  have HP := Lib.hid hP
  have hnm := And.intro hrow.n1 hrow.m1
  clear hrow hP
  go_enter Tryz.func44, Tryz.ntmps44
  go_upto_region 1 with fail
  refine wp_world (fun w' => RwAt w' W.heap.size r bA bc dA dc vA vc ∧ Below W.heap.size W w') ⟨⟨(by (repeat' refine And.intro ?_ ?_) <;> (repeat (first | with_reducible assumption | (simp; done) | (with_reducible first | refine Kd ?_ | refine Kn ?_ | refine Kb (by assumption) ?_) | ((with_reducible first | refine Kw ?_ ?_ | refine Fw ?_) <;> first | with_reducible rfl | (simp; done)) | (with_reducible first | refine Ka _ ?_ | refine Ks _ (by first | exact Nat.le_refl _ | omega | (simp; done) | (simp; omega)) ?_ | refine Fd ?_ | refine Fn ?_ | refine Fb (by assumption) (by first | exact Nat.le_refl _ | omega | (simp; done) | (simp; omega)) ?_ | refine Fa _ (by first | exact Nat.le_refl _ | omega | (simp; done) | (simp; omega)) ?_ | refine Fs _ ?_)))), (by (repeat' refine And.intro ?_ ?_) <;> (repeat (first | with_reducible assumption | (simp; done) | (with_reducible first | refine Kd ?_ | refine Kn ?_ | refine Kb (by assumption) ?_) | ((with_reducible first | refine Kw ?_ ?_ | refine Fw ?_) <;> first | with_reducible rfl | (simp; done)) | (with_reducible first | refine Ka _ ?_ | refine Ks _ (by first | exact Nat.le_refl _ | omega | (simp; done) | (simp; omega)) ?_ | refine Fd ?_ | refine Fn ?_ | refine Fb (by assumption) (by first | exact Nat.le_refl _ | omega | (simp; done) | (simp; omega)) ?_ | refine Fa _ (by first | exact Nat.le_refl _ | omega | (simp; done) | (simp; omega)) ?_ | refine Fs _ ?_)))), (by (repeat' refine And.intro ?_ ?_) <;> (repeat (first | with_reducible assumption | (simp; done) | (with_reducible first | refine Kd ?_ | refine Kn ?_ | refine Kb (by assumption) ?_) | ((with_reducible first | refine Kw ?_ ?_ | refine Fw ?_) <;> first | with_reducible rfl | (simp; done)) | (with_reducible first | refine Ka _ ?_ | refine Ks _ (by first | exact Nat.le_refl _ | omega | (simp; done) | (simp; omega)) ?_ | refine Fd ?_ | refine Fn ?_ | refine Fb (by assumption) (by first | exact Nat.le_refl _ | omega | (simp; done) | (simp; omega)) ?_ | refine Fa _ (by first | exact Nat.le_refl _ | omega | (simp; done) | (simp; omega)) ?_ | refine Fs _ ?_))))⟩, (by repeat (first | (with_reducible first | exact Below.refl _ _ | assumption | refine Below.drew ?_) | ((with_reducible first | refine Lc ?_ ?_ _ | refine Ls ?_ ?_ _ | refine Lv (by assumption) ?_ ?_); · first | exact Nat.le_refl _ | omega | (dsimp only; omega) | (simp only [World.size_alloc, World.size_drew, World.heap_drewN]; omega) | (simp; omega))))⟩ ?_
  rintro w0 ⟨ha0, hb0⟩
  have HA0 := Lib.hid ha0
  have HB0 := Lib.hid hb0
  obtain ⟨a0, a1, a2⟩ := ha0
  clear hb0
  go_wp2_with fail
  refine (rcheck_any r bA dA vA bc dc vc _ (H0.out.onW HB0.out)).mono ?_
  rintro e w1 ⟨rfl, hb1⟩
  have HA1 := Lib.hid (HA0.out.later hb1)
  have HB1 := Lib.hid (HB0.out.trans (hb1.mono HB0.out.size))
  clear hb1 HA0 HB0 a0 a1 a2
  obtain ⟨a0, a1, a2⟩ := HA1.out
  by_cases h0 : r.check = 0
  · rw [h0]
    have HE0 := Lib.hid h0
    have HOK := Lib.hid (Rw.check_ok.1 h0)
    clear h0
    go_wp2_with fail
    refine (rfacts_any r A n c P hn63 bA dA vA bc dc vc _ hnm ((HP.out.below HB1.out).mono HB1.out.size)).mono ?_
    rintro e w3 ⟨rfl, hb3⟩
    have HA3 := Lib.hid (HA1.out.later hb3)
    have HB3 := Lib.hid (HB1.out.trans (hb3.mono HB1.out.size))
    clear hb3 HA1 HB1 a0 a1 a2
    obtain ⟨a0, a1, a2⟩ := HA3.out
    by_cases h2 : r.knownErr n P = 0
    · rw [h2]
      obtain ⟨hn20, hh⟩ := Rw.known_ok h2
      have HH := Lib.hid hh
      have HCR := Lib.hid (Rw.contra_rfl HOK.out h2)
      have hn6 := HOK.out.n6
      have hs3 := HB3.out.size
      clear h2 hh
      go_wp2_with fail
      clear a0 a1 a2
      go_loopw [8] (fun i wr => ∃ k : Nat, k ≤ r.n + 1 ∧ i = .int .i64 k ∧ Hid (∀ j : Nat, j < k → ¬ ((r.rflR P n (j : Int) (j : Int)).2 = true ∧ (r.rflR P n (j : Int) (j : Int)).1 < 0)) ∧ Hid (Below w3.heap.size w3 wr)) (fun i _ => r.n + 1 - (intOf i).toNat)
      case atStart => exact ⟨0, by omega, rfl, Lib.hid (fun j hj => absurd hj (by omega)), Lib.hid (Below.refl _ _)⟩
      case round =>
        obtain ⟨k, hk, rfl, HK, HB⟩ := hrel
        obtain ⟨wo, rfl⟩ : ∃ wo, wo = wr := ⟨_, rfl⟩
        have HBW := Lib.hid (HB3.out.trans (HB.out.mono hs3))
        obtain ⟨a0, a1, a2⟩ := HA3.out.later HB.out
        by_cases hlt : k ≤ r.n
        · have hk0 : (0 : Int) ≤ (k : Int) := by omega
          have hkn : (k : Int) ≤ (r.n : Int) := by omega
          have ek : IntKind.i64.wrap ((k : Int) + 1) = (k : Int) + 1 := IntWalk.i64_in _ (by omega)
          go_wp2_with fail
          refine (rfollow_any r HOK.out A n c P (k : Int) (k : Int) bA dA vA bc dc vc _ (H0.out.onW HBW.out) ((HP.out.below HBW.out).mono HBW.out.size) hn20 HH.out).mono ?_
          rintro e w4 ⟨rfl, hb4⟩
          have HB4 := Lib.hid (HB.out.trans (hb4.mono HB.out.size))
          have HW4 := Lib.hid (HBW.out.trans (hb4.mono HBW.out.size))
          obtain ⟨⟨s, is⟩, hs⟩ : ∃ s, s = r.rflR P n (k : Int) (k : Int) := ⟨_, rfl⟩
          have HS := Lib.hid hs
          rw [← hs]
          clear hb4 hs a0 a1 a2
          cases is with
          | true =>
            by_cases h5 : s < 0
            · have HV : Hid ((r.contraR n P).1 = true ∧ (r.contraR n P).2 = 0) := Lib.hid ⟨HCR.out.1.2 ⟨k, hlt, by rw [← HS.out], by rw [← HS.out]; exact h5⟩, HCR.out.2⟩
              go_wp2_with fail
              go_ret2
              exact ⟨by rw [HV.out.1, HV.out.2]; rfl, HW4.out⟩
            · have HK2 : Hid (∀ j : Nat, j < k + 1 → ¬ ((r.rflR P n (j : Int) (j : Int)).2 = true ∧ (r.rflR P n (j : Int) (j : Int)).1 < 0)) := Lib.hid (fun j hj => by
                by_cases e : j = k
                · rw [e, ← HS.out]
                  exact fun hh => h5 hh.2
                · exact HK.out j (by omega))
              go_wp2_with fail
              refine ⟨?_, ?measure⟩
              case measure => simp [intOf]; omega
              exact ⟨k + 1, by omega, by go_num, HK2, HB4⟩
          | false =>
            have HK2 : Hid (∀ j : Nat, j < k + 1 → ¬ ((r.rflR P n (j : Int) (j : Int)).2 = true ∧ (r.rflR P n (j : Int) (j : Int)).1 < 0)) := Lib.hid (fun j hj => by
              by_cases e : j = k
              · rw [e, ← HS.out]
                exact fun hh => absurd hh.1 (by simp)
              · exact HK.out j (by omega))
            go_wp2_with fail
            refine ⟨?_, ?measure⟩
            case measure => simp [intOf]; omega
            exact ⟨k + 1, by omega, by go_num, HK2, HB4⟩
        · have hk' : k = r.n + 1 := by omega
          have hge : ¬ (k : Int) ≤ (r.n : Int) := by omega
          have HV : Hid ((r.contraR n P).1 = false ∧ (r.contraR n P).2 = 0) := Lib.hid ⟨by
            cases e : (r.contraR n P).1 with
            | false => rfl
            | true =>
              obtain ⟨a, ha, h6⟩ := HCR.out.1.1 e
              exact absurd h6 (HK.out a (by omega)), HCR.out.2⟩
          go_wp2_with fail
          go_ret2
          exact ⟨by rw [HV.out.1, HV.out.2]; rfl, HBW.out⟩
    · have hne : (r.knownErr n P != 0) = true := by simpa using h2
      have HV : Hid (r.contraR n P = (false, r.knownErr n P)) := Lib.hid (by unfold Rw.contraR; rw [if_neg (fun hh => hh HE0.out), if_pos h2])
      clear h2
      go_wp2_with fail
      go_ret2
      exact ⟨by rw [HV.out]; rfl, HB3.out⟩
  · have hne : (r.check != 0) = true := by simpa using h0
    have HV : Hid (r.contraR n P = (false, r.check)) := Lib.hid (by unfold Rw.contraR; rw [if_pos h0])
    clear h0
    go_wp2_with fail
    go_ret2
    exact ⟨by rw [HV.out]; rfl, HB1.out⟩

theorem infoRFc : (Tryz.prog.info? 171).map (fun i => (i.zero, i.size, i.bytes)) = some (some (.agg #[.bool false, .int .i64 0, .bool false]), 3, 24) := by kernel_rfl
theorem rfcs_under : Tryz.prog.underlying 79 = some (.slice 171) := by kernel_rfl
theorem fcrow_of_owns {T : TypeId} {w : World} {base n : Nat} {v : Value} {P : Nat → Fc} (h : w.ownsRow base T 3 v n (rowC fcC P n)) : ∃ A c, v = .slice A n c ∧ FcRow w w.heap.size A n P := by
  rcases h.2 with ⟨rfl, h0⟩ | ⟨g, cap, cur, rfl, hb, hg, hc, _⟩
  · exact ⟨none, 0, by rw [h0], fun k hk => by omega⟩
  · refine ⟨some ⟨g, 0, none⟩, cap, rfl, fun k hk => ?_⟩
    have key : ∀ j v, j < 3 → (fcC (P k))[j]? = some v → w.cell? ⟨g, k * 3 + j, none⟩ = some v := fun j v hj hv => by
      have h1 := h.cells (g := g) rfl (k * 3 + j) v (by rw [rowC_get fcC_len P n k j hk hj]; exact hv)
      rw [add_at] at h1
      exact h1
    have c0 := key 0 _ (by omega) rfl
    exact ⟨g, 0, rfl, World.block_lt_of_cell? w _ c0, by rw [Nat.zero_add]; exact c0, by rw [Nat.zero_add]; exact key 1 _ (by omega) rfl, by rw [Nat.zero_add]; exact key 2 _ (by omega) rfl⟩

set_option maxRecDepth 100000 in
set_option maxHeartbeats 4000000 in
theorem walked_any (A : Option Addr) (n c : Nat) (P : Nat → Fc) (W : World) (hn : n ≤ 1000) (hP : FcRow W W.heap.size A n P) :
    Calls Tryz.prog 41 #[.slice A n c] W fun e W' => (∃ A' c', e = .returned (.slice A' n c') ∧ FcRow W' W'.heap.size A' n P) ∧ Below W.heap.size W W' := by
  have HP := Lib.hid hP
  obtain ⟨i0, hi, hz0, hz1, hz2⟩ := info_parts infoRFc
  clear hP
  go_enter Tryz.func41, Tryz.ntmps41
  go_wp2_with fail
  go_loopw [3, 8] (fun v i wr => ∃ k : Nat, k ≤ n ∧ i = .int .i64 k ∧ Hid (wr.ownsRow W.heap.size 171 3 v k (rowC fcC P k)) ∧ Hid (Below W.heap.size W wr)) (fun _ i _ => n - (intOf i).toNat)
  case atStart => exact ⟨0, Nat.zero_le _, rfl, Lib.hid (World.ownsRow_nil _ _ _ _), Lib.hid (Below.refl _ _)⟩
  case round =>
    obtain ⟨k, hk, rfl, HO, HB⟩ := hrel
    obtain ⟨wo, rfl⟩ : ∃ wo, wo = wr := ⟨_, rfl⟩
    have hsW := HB.out.size
    by_cases hlt : k < n
    · have hk0 : (0 : Int) ≤ (k : Int) := by omega
      have hkn : (k : Int) < (n : Int) := by omega
      have ek : IntKind.i64.wrap ((k : Int) + 1) = (k : Int) + 1 := IntWalk.i64_in _ (by omega)
      obtain ⟨b, o, rfl, hb, d0, d1, d2⟩ := (HP.out.below HB.out) k hlt
      obtain ⟨x, hx⟩ : ∃ x, x = P k := ⟨_, rfl⟩
      rw [← hx] at d0 d1 d2
      have HX := Lib.hid hx
      clear hx
      go_upto_region 5 with fail
      refine wp_world (fun w' => (w'.cell? ⟨wo.heap.size, 0, none⟩ = some (.bool x.w) ∧ w'.cell? ⟨wo.heap.size, 1, none⟩ = some (.int .i64 x.i) ∧ w'.cell? ⟨wo.heap.size, 2, none⟩ = some (.bool x.m)) ∧ Below wo.heap.size wo w') ⟨(by (repeat' refine And.intro ?_ ?_) <;> (repeat (first | with_reducible assumption | (simp; done) | (with_reducible first | refine Kd ?_ | refine Kn ?_ | refine Kb (by assumption) ?_) | ((with_reducible first | refine Kw ?_ ?_ | refine Fw ?_) <;> first | with_reducible rfl | (simp; done)) | (with_reducible first | refine Ka _ ?_ | refine Ks _ (by first | exact Nat.le_refl _ | omega | (simp; done) | (simp; omega)) ?_ | refine Fd ?_ | refine Fn ?_ | refine Fb (by assumption) (by first | exact Nat.le_refl _ | omega | (simp; done) | (simp; omega)) ?_ | refine Fa _ (by first | exact Nat.le_refl _ | omega | (simp; done) | (simp; omega)) ?_ | refine Fs _ ?_)))), (by repeat (first | (with_reducible first | exact Below.refl _ _ | assumption | refine Below.drew ?_) | ((with_reducible first | refine Lc ?_ ?_ _ | refine Ls ?_ ?_ _ | refine Lv (by assumption) ?_ ?_); · first | exact Nat.le_refl _ | omega | (dsimp only; omega) | (simp only [World.size_alloc, World.size_drew, World.heap_drewN]; omega) | (simp; omega))))⟩ ?_
      rintro w2 ⟨⟨x0, x1, x2⟩, hb2⟩
      have HO2 := Lib.hid (owns_later HO.out hb2)
      have HB2 := Lib.hid (HB.out.trans (hb2.mono hsW))
      have hv1 := HO2.out.lt
      have hs2 := HB2.out.size
      clear hb2 d0 d1 d2 HO HB
      go_upto_region 6 with (at_builtin; refine wpList_append_lies _ rfl (.tmp 12) (.tmp 14) 79 rfl W.heap.size 171 i0 (.agg #[.bool false, .int .i64 0, .bool false]) 3 24 rfcs_under hi hz0 hz1 hz2 rfl (by decide) _ k (rowC fcC P k) rfl (HO2.out.alloc _) ⟨w2.heap.size, 0, none⟩ 1 1 (fcC x) rfl rfl (new_cells (cs := fcC x)) (fcC_one x) (by omega) (by unfold maxLen; omega) (by omega) (by simp; omega) (w2.heap.size + 1) (by simp) ?_; intro g cap w6 hown6 hgr6 hat6 hlt6)
      have HO6 : Hid (w6.ownsRow W.heap.size 171 3 (.slice (some ⟨g, 0, none⟩) (k + 1) cap) (k + 1) (rowC fcC P (k + 1))) := Lib.hid (by rw [HX.out] at hown6; exact hown6)
      have HB6 : Hid (Below W.heap.size W w6) := Lib.hid (Below.grown (HB2.out.alloc hs2 _) hgr6 (by simp; omega) (fun q hq => (hv1 q hq).1))
      clear hown6 hgr6 hat6 hlt6 x0 x1 x2 HO2 HB2
      go_wp2_with fail
      refine ⟨?_, ?measure⟩
      case measure => simp [intOf]; omega
      exact ⟨k + 1, by omega, by go_num, HO6, HB6⟩
    · obtain rfl : k = n := by omega
      have hge : ¬ (k : Int) < (k : Int) := by omega
      obtain ⟨A', c', rfl, hr⟩ := fcrow_of_owns HO.out
      have HR := Lib.hid hr
      clear hr HO
      go_wp2_with fail
      go_ret
      exact ⟨⟨A', ⟨c', rfl⟩, HR.out⟩, HB.out⟩
end Go.Proofs.YtnnikeolgknfoaaGreat

set_option linter.unusedSimpArgs false
set_option linter.unusedVariables false
namespace Go.Proofs.YtnnikeolgknfoaaGreat
open Go.RowKit Go.Shelf

theorem lawb_closeF {r : Rw} {d d1 d2 : Rd} {lop lom lot b1 b2 : Nat} {W w1 wp wm wt wX : World} {cA mA : Option Addr} {n : Nat} {P : Nat → Fc} (H0 : d.row W r) (HB1 : Below W.heap.size W w1) (h0 : W.heap.size < w1.heap.size) (hA : d.at w1 W.heap.size r)
    (hP : Below w1.heap.size w1 wp) (hM : Below wp.heap.size wp wm) (hT : Below wm.heap.size wm wt) (hop : OwnRw wp lop r d1) (htp : OwnRw wt lot r d2) (hc : FcRow W W.heap.size cA n P) (hom : OwnFc wm lom mA n P)
    (hos : wX.os = wt.os) (htape : wX.tape = wt.tape) (hout : wX.output = wt.output) (hsz : wt.heap.size ≤ wX.heap.size)
    (hF : ∀ i, i < wt.heap.size → i ≠ b1 → i ≠ b2 → wX.heap[i]? = wt.heap[i]?)
    (k1 : w1.heap.size ≤ b1 ∧ (b1 < lop ∨ wp.heap.size ≤ b1) ∧ (b1 < lot ∨ wt.heap.size ≤ b1)) (k2 : w1.heap.size ≤ b2 ∧ (b2 < lop ∨ wp.heap.size ≤ b2) ∧ (b2 < lot ∨ wt.heap.size ≤ b2)) (k3 : (b1 < lom ∨ wm.heap.size ≤ b1) ∧ (b2 < lom ∨ wm.heap.size ≤ b2))
    (s1 : d1.at wX b1 r) (s2 : d2.at wX b2 r) :
    Hid (LawB W wX r b1 b2 d d1 d2) ∧ Hid (FcRow wX wX.heap.size cA n P) ∧ Hid (FcRow wX wX.heap.size mA n P) := by
  obtain ⟨h1, h2⟩ := lawb_close H0 HB1 h0 hA hP hM hT hop htp hos htape hout hsz hF k1 k2 s1 s2
  exact ⟨Lib.hid h1, Lib.hid ((hc.below h1.l).mono h1.l.size), Lib.hid (hom.keep (fun b hl hb => h2 b hb (by omega) (by omega))).row⟩

set_option maxRecDepth 100000 in
set_option maxHeartbeats 1000000 in
theorem copy_fc (A : Option Addr) (n c : Nat) (P : Nat → Fc) (W : World) (hr : FcRow W W.heap.size A n P) (hn : n ≤ 1000) :
    Calls Tryz.prog 38 #[.slice A n c] W fun e W' => Below W.heap.size W W' ∧ ∃ A c', e = .returned (.slice A n c') ∧ OwnFc W' W.heap.size A n P ∧ n ≤ c' := by
  have HR := Lib.hid hr
  obtain ⟨i0, hi, hz0, hz1, hz2⟩ := info_parts infoFc
  by_cases h0 : n = 0
  · subst h0
    clear hr
    go_enter Tryz.func38, Tryz.ntmps38
    go_wp2_with fail
    go_ret
    exact ⟨Below.refl _ _, none, 0, rfl, fun k hk => by omega, Nat.le_refl _⟩
  · obtain ⟨a, rfl⟩ : ∃ a, A = some a := by cases A with | none => exact absurd (hr.none rfl) h0 | some a => exact ⟨a, rfl⟩
    have hb : ((n : Int) == 0) = false := by rw [beq_eq_false_iff_ne]; omega
    clear hr h0
    go_enter Tryz.func38, Tryz.ntmps38
    go_wp2_with (at_builtin; refine wpList_append_own _ rfl _ _ 73 rfl W.heap.size 76 i0 (.agg #[.bool false, .int .i64 0, .bool false]) 3 24 fcs_under hi hz0 hz1 hz2 rfl (by decide) (.slice (some ⟨W.heap.size, 0, none⟩) 0 0) 0 [] rfl (World.ownsRow_made W #[] 0 (Nat.le_refl _) (Nat.zero_le _) rfl) a n c (rowC fcC P n) rfl (rowC_len fcC_len _ _) ?c1 (rowC_one fcC_one _ _) ?c3 ?c4 ?c5 ?_)
    case c1 =>
      intro j u hj
      exact Lib.cell?_alloc_some _ (HR.out.atA hj)
    case c3 => unfold maxLen; omega
    case c4 => omega
    case c5 => simp
    intro v' w1 hown hgrow hnil
    go_wp2
    go_ret
    have hB : Below W.heap.size W w1 := ((Below.refl _ W).alloc (Nat.le_refl _) _).grown hgrow (by simp) (by intro k hk; simp [Value.ownBlock] at hk; omega)
    obtain ⟨A, c', rfl, h1, h2⟩ := OwnFc.of (P := P) (by simpa using hown)
    exact ⟨hB, A, c', rfl, h1, h2⟩

set_option maxRecDepth 100000 in
set_option maxHeartbeats 2000000 in
theorem alikeS_fc (A C : Option Addr) (n ca cc : Nat) (X : Nat → Fc) (W : World) (hA : FcRow W W.heap.size A n X) (hC : FcRow W W.heap.size C n X) (hn : n ≤ 1000) :
    Calls Tryz.prog 47 #[.slice A n ca, .slice C n cc] W fun e W' => e = .returned (.bool true) ∧ Below W.heap.size W W' := by
  have HA := Lib.hid hA
  have HC := Lib.hid hC
  clear hA hC
  have hb : ((n : Int) != (n : Int)) = false := by simp
  go_enter Tryz.func47, Tryz.ntmps47
  go_wp2_with fail
  go_loopw [14] (fun i wr => ∃ k : Nat, k ≤ n ∧ i = .int .i64 k ∧ Hid (Below W.heap.size W wr)) (fun i _ => n - (intOf i).toNat)
  case atStart => exact ⟨0, Nat.zero_le _, rfl, Lib.hid (Below.refl _ _)⟩
  case round =>
    obtain ⟨k, hk, rfl, hbw⟩ := hrel
    by_cases hlt : k < n
    · obtain ⟨b, o, rfl, hb1, c0, c1, c2⟩ := HA.out k hlt
      obtain ⟨b', o', rfl, hb2, d0, d1, d2⟩ := HC.out k hlt
      have hk0 : (0 : Int) ≤ (k : Int) := by omega
      have hkn : (k : Int) < (n : Int) := by omega
      obtain ⟨z0, hz0⟩ : ∃ z, z = (X k).w := ⟨_, rfl⟩
      rw [← hz0] at c0 d0
      obtain ⟨z1, hz1⟩ : ∃ z, z = (X k).i := ⟨_, rfl⟩
      rw [← hz1] at c1 d1
      obtain ⟨z2, hz2⟩ : ∃ z, z = (X k).m := ⟨_, rfl⟩
      rw [← hz2] at c2 d2
      have c0 := cell_same (hbw.out.block _ hb1) c0
      have c1 := cell_same (hbw.out.block _ hb1) c1
      have c2 := cell_same (hbw.out.block _ hb1) c2
      have d0 := cell_same (hbw.out.block _ hb2) d0
      have d1 := cell_same (hbw.out.block _ hb2) d1
      have d2 := cell_same (hbw.out.block _ hb2) d2
      clear hz0 hz1 hz2
      have hsr := hbw.out.size
      go_upto_region 6 with fail
      refine wp_world (fun W5 => (W5.cell? ⟨wr.heap.size, 0, none⟩ = some (.bool z0) ∧ W5.cell? ⟨wr.heap.size, 1, none⟩ = some (.int .i64 z1) ∧ W5.cell? ⟨wr.heap.size, 2, none⟩ = some (.bool z2)) ∧ Below wr.heap.size wr W5) ⟨(by (repeat' refine And.intro ?_ ?_) <;> (repeat (first | with_reducible assumption | (simp; done) | (with_reducible first | refine Kd ?_ | refine Kn ?_ | refine Kb (by assumption) ?_) | ((with_reducible first | refine Kw ?_ ?_ | refine Fw ?_) <;> first | with_reducible rfl | (simp; done)) | (with_reducible first | refine Ka _ ?_ | refine Ks _ (by first | exact Nat.le_refl _ | omega | (simp; done) | (simp; omega)) ?_ | refine Fd ?_ | refine Fn ?_ | refine Fb (by assumption) (by first | exact Nat.le_refl _ | omega | (simp; done) | (simp; omega)) ?_ | refine Fa _ (by first | exact Nat.le_refl _ | omega | (simp; done) | (simp; omega)) ?_ | refine Fs _ ?_)))), (by repeat (first | (with_reducible first | exact Below.refl _ _ | refine Below.drew ?_ | refine below_drewN ?_ _) | ((with_reducible first | refine Lc ?_ ?_ _ | refine Ls ?_ ?_ _ | refine Lv (by assumption) ?_ ?_); · first | exact Nat.le_refl _ | omega | (simp; done) | (simp; omega) | (simp at *; omega))))⟩ ?_
      rintro W5 ⟨⟨p0, p1, p2⟩, hb5⟩
      have x0 := cell_regrown p0
      have y0 := cell_regrown (Kb hb5 d0)
      have e0 : (z0 == z0) = true := by simp
      have x1 := cell_regrown p1
      have y1 := cell_regrown (Kb hb5 d1)
      have e1 : (z1 == z1) = true := by simp
      have x2 := cell_regrown p2
      have y2 := cell_regrown (Kb hb5 d2)
      have e2 : (z2 == z2) = true := by simp
      have HB5 := Lib.hid (hbw.out.trans (hb5.mono hsr))
      have hs5 := hb5.size
      clear c0 c1 c2 d0 d1 d2 p0 p1 p2 hb5
      refine region_qbw (by kernel_rfl) (by kernel_rfl) ?_
      repeat (first | go_big_quiet_step (fail) | quiet_step (fail))
      refine wpQuiet_nil ?_; intro wq hbq
      have HB6 := Lib.hid (HB5.out.trans (hbq.mono (by omega)))
      clear x0 y0 x1 y1 x2 y2 hbq
      go_wp2_with fail
      go_roundw
      case rel => exact ⟨k + 1, by omega, by go_num, HB6⟩
      case measure => simp [intOf]; omega
    · obtain rfl : k = n := by omega
      have hge : ¬ (k : Int) < (k : Int) := by omega
      go_wp2_with fail
      go_ret
      exact ⟨rfl, hbw.out⟩
end Go.Proofs.YtnnikeolgknfoaaGreat
