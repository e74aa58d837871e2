/- BinDays: the joined statement. -/
import Derived.Test.YtnnikeolgknfoaaGreatGa
import Derived.ProofKit
import Derived.Deep.Slices
import Derived.Deep.Fields
import Derived.Lib.SmallJoins
import Derived.Test.YtnnikeolgknfoaaGreatBb
import Derived.Test.YtnnikeolgknfoaaGreatDxm
import Derived.Test.YtnnikeolgknfoaaGreatD3
import Derived.Test.YtnnikeolgknfoaaGreatDxw
import Derived.Test.YtnnikeolgknfoaaGreatJa
import Derived.Test.YtnnikeolgknfoaaGreatRows
set_option linter.unusedSimpArgs false
set_option linter.unusedVariables false
namespace Go.Proofs.YtnnikeolgknfoaaGreat
open Go.ChangeShapes Go.WideShapes Go.ChangeAt Go.RowKit Go.Deep Go.Joins

theorem own_knob : ownKnob Tryz.prog.godebug = none := by kernel_rfl
theorem laid_out : laidOutB Tryz.prog = true := by kernel_rfl
end Go.Proofs.YtnnikeolgknfoaaGreat

set_option linter.unusedSimpArgs false
set_option linter.unusedVariables false
namespace Go.Proofs.YtnnikeolgknfoaaGreat
open Go.ChangeShapes Go.WideShapes Go.ChangeAt Go.RowKit Go.Deep Go.Joins

/-- the bool in a cell -/
def boolAt (w : World) (a : Addr) : Bool := match w.cell? a with | some (.bool z) => z | _ => false
theorem boolAt_eq {w : World} {a : Addr} {z : Bool} (h : w.cell? a = some (.bool z)) : w.cell? a = some (.bool (boolAt w a)) := by
  unfold boolAt; rw [h]
def NumCs (cs : List Value) (n : Nat) : Prop := cs.length = n ∧ ∀ j, j < n → ∃ z : Int, cs[j]? = some (.int .i64 z)
theorem part_get {cs l : List Value} {o n j : Nat} {v : Value} (h : (cs.drop o).take n = l) (hj : l[j]? = some v) : cs[o + j]? = some v := by
  rw [← h] at hj
  have hjn : j < n := by
    have := (List.getElem?_eq_some_iff.1 hj).1
    simp at this
    omega
  rw [List.getElem?_take_of_lt hjn, List.getElem?_drop] at hj
  exact hj

section
variable {H : Type} {enc : TypeId × Value → H} {w : World} {base : Nat} {spare : Nat → Bool} {held : Bool}

set_option maxRecDepth 100000 in
theorem num_int {t : TypeId} (ht : Tryz.prog.underlying t = some (.int .i64)) {fuel : Nat} {cs : List Value} {x : DataW H × List MemPlace} (h : DataW.trod enc Tryz.prog w base spare held fuel t cs = some x) : ∃ z : Int, cs = [.int .i64 z] := by
  obtain ⟨z, hz, _⟩ := DataW.trod_int ht h
  exact ⟨z, hz⟩
theorem kind_under : Tryz.prog.underlying 52 = some (.int .i64) := by kernel_rfl
theorem cells_int : Tryz.prog.cellsOf 3 = 1 := by kernel_rfl
theorem cells_sp : Tryz.prog.cellsOf 49 = 2 := by kernel_rfl
theorem cells_sps : Tryz.prog.cellsOf 117 = 6 := by kernel_rfl
theorem cells_bn : Tryz.prog.cellsOf 119 = 7 := by kernel_rfl
theorem cells_wg : Tryz.prog.cellsOf 101 = 4 := by kernel_rfl
theorem cells_kd : Tryz.prog.cellsOf 52 = 1 := by kernel_rfl
theorem spArrQ_under : Tryz.prog.underlying 117 = some (.array 3 49) := by kernel_rfl

set_option maxRecDepth 100000 in
theorem num_span {fuel : Nat} {cs : List Value} {x : DataW H × List MemPlace} (h : DataW.trod enc Tryz.prog w base spare held fuel 49 cs = some x) : NumCs cs 2 := by
  obtain ⟨y0, y1, n, -, hl, h0, h1⟩ := trod_struct2 Tryz.underlying49 h
  rw [cells_sp] at hl
  obtain ⟨z0, e0⟩ := num_int Tryz.underlying3 h0
  obtain ⟨z1, e1⟩ := num_int Tryz.underlying3 h1
  refine ⟨hl, fun j hj => ?_⟩
  have hj' : j = 0 ∨ j = 1 := by omega
  rcases hj' with rfl | rfl
  · exact ⟨z0, part_get (j := 0) e0 rfl⟩
  · exact ⟨z1, part_get (j := 0) e1 rfl⟩
set_option maxRecDepth 100000 in
theorem num_bin {fuel : Nat} {cs : List Value} {x : DataW H × List MemPlace} (h : DataW.trod enc Tryz.prog w base spare held fuel 119 cs = some x) : NumCs cs 7 := by
  obtain ⟨y0, y1, n, -, hl, h0, h1⟩ := trod_struct2 Tryz.underlying119 h
  rw [cells_bn] at hl
  obtain ⟨z6, e6⟩ := num_int Tryz.underlying3 h1
  obtain ⟨xs, m, -, -, hl2, hxl, ha⟩ := DataW.trod_array spArrQ_under h0
  refine ⟨hl, fun j hj => ?_⟩
  by_cases hj6 : j = 6
  · subst hj6
    exact ⟨z6, part_get (j := 0) e6 rfl⟩
  · have hi := ha (j / 2) (by omega)
    rw [cells_sp] at hi
    obtain ⟨y, hy⟩ : ∃ y, xs[j / 2]? = some y := ⟨xs[j / 2]'(by omega), List.getElem?_eq_getElem _⟩
    rw [hy] at hi
    obtain ⟨_, hs⟩ := num_span hi
    obtain ⟨z, hz⟩ := hs (j % 2) (by omega)
    have g1 := part_get rfl hz
    rw [show j / 2 * 2 + j % 2 = j by omega] at g1
    have g2 := part_get rfl g1
    exact ⟨z, by rw [Nat.zero_add] at g2; exact g2⟩
set_option maxRecDepth 100000 in
theorem num_wg {fuel : Nat} {cs : List Value} {x : DataW H × List MemPlace} (h : DataW.trod enc Tryz.prog w base spare held fuel 101 cs = some x) : NumCs cs 4 := by
  obtain ⟨y0, y1, y2, y3, n, -, hl, h0, h1, h2, h3⟩ := trod_struct4 Tryz.underlying101 h
  rw [cells_wg] at hl
  obtain ⟨z0, e0⟩ := num_int Tryz.underlying3 h0
  obtain ⟨z1, e1⟩ := num_int Tryz.underlying3 h1
  obtain ⟨z2, e2⟩ := num_int Tryz.underlying3 h2
  obtain ⟨z3, e3⟩ := num_int Tryz.underlying3 h3
  refine ⟨hl, fun j hj => ?_⟩
  have hj' : j = 0 ∨ j = 1 ∨ j = 2 ∨ j = 3 := by omega
  rcases hj' with rfl | rfl | rfl | rfl
  · exact ⟨z0, part_get (j := 0) e0 rfl⟩
  · exact ⟨z1, part_get (j := 0) e1 rfl⟩
  · exact ⟨z2, part_get (j := 0) e2 rfl⟩
  · exact ⟨z3, part_get (j := 0) e3 rfl⟩
theorem num_one {t : TypeId} (ht : Tryz.prog.underlying t = some (.int .i64)) {fuel : Nat} {cs : List Value} {x : DataW H × List MemPlace} (h : DataW.trod enc Tryz.prog w base spare held fuel t cs = some x) : NumCs cs 1 := by
  obtain ⟨z, rfl⟩ := num_int ht h
  exact ⟨rfl, fun j hj => ⟨z, by rw [show j = 0 by omega]; rfl⟩⟩

set_option maxRecDepth 100000 in
/-- a slice of elements of some cells -/
theorem open_cellsQ {t e : TypeId} {N : Nat} {Q : List Value → Prop} (ht : Tryz.prog.underlying t = some (.slice e)) (hC : Tryz.prog.cellsOf e = N) (hQ : ∀ (f : Nat) (cs : List Value) (x : DataW H × List MemPlace), DataW.trod enc Tryz.prog w base spare held f e cs = some x → Q cs)
    {fuel : Nat} {cs : List Value} {x : DataW H × List MemPlace} (h : DataW.trod enc Tryz.prog w base spare held fuel t cs = some x) :
    cs = [.slice none 0 0] ∨ ∃ (a : Addr) (len cap : Nat), cs = [.slice (some a) len cap] ∧ len ≤ cap ∧ ∀ i, i < len → ∃ cs', Q cs' ∧ ∀ j, j < N → w.cell? (a.add (i * N + j)) = cs'[j]? := by
  rcases open_slice ht h with ⟨h0, _⟩ | ⟨a, len, cap, m, n, D, Pl, hcs, hb, hl, hm, hmm, hx, hi⟩
  · exact .inl h0
  · refine .inr ⟨a, len, cap, hcs, hl, fun i hil => ?_⟩
    have him : i < m := by rw [hmm]; split <;> omega
    obtain ⟨cs', hc, ht'⟩ := hi i him
    rw [hC] at hc
    obtain ⟨_, hcl, hat⟩ := World.cells?_some hc
    refine ⟨cs', hQ _ _ _ ht', fun j hj => ?_⟩
    have := hat j hj
    rw [Go.Deep.add_add] at this
    exact this
theorem nums_at {a : Addr} {N i : Nat} (h : ∃ cs', NumCs cs' N ∧ ∀ j, j < N → w.cell? (a.add (i * N + j)) = cs'[j]?) : ∀ j, j < N → w.cell? (a.add (i * N + j)) = some (.int .i64 (numAt w (a.add (i * N + j)))) := fun j hj => by
  obtain ⟨cs', hQ, hc⟩ := h
  obtain ⟨z, hz⟩ := hQ.2 j hj
  exact numAt_eq (z := z) (by rw [hc j hj, hz])
theorem lit_add (b o j : Nat) : (⟨b, o, none⟩ : Addr).add j = ⟨b, o + j, none⟩ := Addr.add_lit _ _ _

set_option maxRecDepth 100000 in
theorem open_bnrow {fuel : Nat} {v : Value} {x : DataW H × List MemPlace} (h : DataW.trod enc Tryz.prog w base spare held fuel 22 [v] = some x) : ∃ A n c P, v = .slice A n c ∧ BnRow w w.heap.size A n P ∧ n ≤ c := by
  rcases open_cellsQ (Q := fun cs => NumCs cs 7) bns_under cells_bn (fun f cs x h => num_bin h) h with h0 | ⟨a, len, cap, hcs, hl, hc⟩
  · injection h0 with h0
    exact ⟨none, 0, 0, fun _ => ⟨fun _ => 0, fun _ => 0, 0⟩, h0, fun k hk => absurd hk (by omega), Nat.le_refl _⟩
  · injection hcs with hcs
    refine ⟨some a, len, cap, fun k => ⟨fun q => numAt w (a.add (k * 7 + 2 * q)), fun q => numAt w (a.add (k * 7 + (2 * q + 1))), numAt w (a.add (k * 7 + 6))⟩, hcs, fun k hk => ?_, hl⟩
    have hn := nums_at (hc k hk)
    have c0 := hn 0 (by decide)
    have c1 := hn 1 (by decide)
    have c2 := hn 2 (by decide)
    have c3 := hn 3 (by decide)
    have c4 := hn 4 (by decide)
    have c5 := hn 5 (by decide)
    have c6 := hn 6 (by decide)
    have hsp : a.spot = none := by
      have := nums_at (hc 0 (by omega)) 0 (by decide)
      simpa [Addr.add] using World.cell?_spot this
    obtain ⟨b, o, sp⟩ := a
    simp only at hsp
    subst hsp
    simp only [lit_add] at *
    exact ⟨b, o, rfl, World.block_lt_of_cell? w _ c0, c0, c1, c2, c3, c4, c5, c6⟩
set_option maxRecDepth 100000 in
theorem open_wgrow {fuel : Nat} {v : Value} {x : DataW H × List MemPlace} (h : DataW.trod enc Tryz.prog w base spare held fuel 24 [v] = some x) : ∃ A n c P, v = .slice A n c ∧ WgRow w w.heap.size A n P ∧ n ≤ c := by
  rcases open_cellsQ (Q := fun cs => NumCs cs 4) wgs_under cells_wg (fun f cs x h => num_wg h) h with h0 | ⟨a, len, cap, hcs, hl, hc⟩
  · injection h0 with h0
    exact ⟨none, 0, 0, fun _ => ⟨0, 0, 0, 0⟩, h0, fun k hk => absurd hk (by omega), Nat.le_refl _⟩
  · injection hcs with hcs
    refine ⟨some a, len, cap, fun k => ⟨numAt w (a.add (k * 4 + 0)), numAt w (a.add (k * 4 + 1)), numAt w (a.add (k * 4 + 2)), numAt w (a.add (k * 4 + 3))⟩, hcs, fun k hk => ?_, hl⟩
    have hn := nums_at (hc k hk)
    have c0 := hn 0 (by decide)
    have c1 := hn 1 (by decide)
    have c2 := hn 2 (by decide)
    have c3 := hn 3 (by decide)
    have hsp : a.spot = none := by
      have := nums_at (hc 0 (by omega)) 0 (by decide)
      simpa [Addr.add] using World.cell?_spot this
    obtain ⟨b, o, sp⟩ := a
    simp only at hsp
    subst hsp
    simp only [lit_add] at *
    exact ⟨b, o, rfl, World.block_lt_of_cell? w _ c0, c0, c1, c2, c3⟩
set_option maxRecDepth 100000 in
theorem open_introwT {t e : TypeId} (ht : Tryz.prog.underlying t = some (.slice e)) (he : Tryz.prog.underlying e = some (.int .i64)) (hC : Tryz.prog.cellsOf e = 1) {fuel : Nat} {v : Value} {x : DataW H × List MemPlace} (h : DataW.trod enc Tryz.prog w base spare held fuel t [v] = some x) : ∃ A n c X, v = .slice A n c ∧ IntRow w w.heap.size A n X ∧ n ≤ c := by
  rcases open_cellsQ (Q := fun cs => NumCs cs 1) ht hC (fun f cs x h => num_one he h) h with h0 | ⟨a, len, cap, hcs, hl, hc⟩
  · injection h0 with h0
    exact ⟨none, 0, 0, fun _ => 0, h0, fun k hk => absurd hk (by omega), Nat.le_refl _⟩
  · injection hcs with hcs
    refine ⟨some a, len, cap, fun k => numAt w (a.add (k * 1 + 0)), hcs, fun k hk => ?_, hl⟩
    have c0 := nums_at (hc k hk) 0 (by decide)
    have hsp : a.spot = none := by
      have := nums_at (hc 0 (by omega)) 0 (by decide)
      simpa [Addr.add] using World.cell?_spot this
    obtain ⟨b, o, sp⟩ := a
    simp only at hsp
    subst hsp
    simp only [lit_add, Nat.mul_one, Nat.add_zero] at *
    exact ⟨b, o, rfl, World.block_lt_of_cell? w _ c0, c0⟩
/-- a row as it is passed -/
def RowIn (w : World) (r : Rw) (bA : Option Addr) (bc : Nat) (dA : Option Addr) (dc : Nat) (vA : Option Addr) (vc : Nat) : Prop :=
  BnRow w w.heap.size bA r.n r.B ∧ IntRow w w.heap.size dA r.d r.D ∧ WgRow w w.heap.size vA r.m r.V ∧ r.n ≤ bc ∧ r.d ≤ dc ∧ r.m ≤ vc
set_option maxRecDepth 100000 in
/-- a row by value -/
theorem open_brow {r : Reach} {b0 : Nat} {v : Value} {d : DataW H} {p : List MemPlace} (hv : Value.okWide Tryz.prog w r b0 26 v) (h : DataW.Trod enc Tryz.prog w base spare held 26 v d p) :
    ∃ (r : Rw) (bA dA vA : Option Addr) (bc dc vc : Nat), v = rwV bA r.n bc dA r.d dc vA r.m vc ∧ RowIn w r bA bc dA dc vA vc := by
  obtain ⟨v0, v1, v2, y0, y1, y2, n, rfl, _, _, h0, h1, h2⟩ := open_agg3 Tryz.underlying26 (by kernel_rfl) (by kernel_rfl) hv h
  obtain ⟨bA, bn, bc, B, rfl, hb, hbc⟩ := open_bnrow h0
  obtain ⟨dA, dn, dc, D, rfl, hd, hdc⟩ := open_introwT (t := 23) (e := 52) (by kernel_rfl) kind_under cells_kd h1
  obtain ⟨vA, vn, vc, V, rfl, hw, hvc⟩ := open_wgrow h2
  exact ⟨⟨bn, B, dn, D, vn, V⟩, bA, dA, vA, bc, dc, vc, rfl, hb, hd, hw, hbc, hdc, hvc⟩
end
end Go.Proofs.YtnnikeolgknfoaaGreat

set_option linter.unusedSimpArgs false
set_option linter.unusedVariables false
namespace Go.Proofs.YtnnikeolgknfoaaGreat
open Go.RowKit Go.Shelf

theorem cell_set_same {w : World} {p : Addr} {u v : Value} (h : w.cell? p = some v) : (w.setCell p u).cell? p = some u := World.cell?_setCell_same' _ _ _ (by rw [h]; rfl)
theorem cell_set_is {w : World} {p : Addr} {u : Value} (h : (w.cell? p).isSome = true) : (w.setCell p u).cell? p = some u := World.cell?_setCell_same' _ _ _ h
theorem has_of {w : World} {a : Addr} {v : Value} (h : w.cell? a = some v) : (w.cell? a).isSome = true := by rw [h]; rfl
theorem has_set {w : World} {p a : Addr} {u : Value} (h : (w.cell? a).isSome = true) : ((w.setCell p u).cell? a).isSome = true := by
  by_cases e : p = a
  · subst e
    rw [World.cell?_setCell_same' _ _ _ h]; rfl
  · rw [World.cell?_setCell_other _ _ _ _ (by first | exact e | exact fun h => e h.symm)]; exact h
theorem has_alloc {w : World} {o : Obj} {a : Addr} (h : (w.cell? a).isSome = true) : ((w.alloc o).cell? a).isSome = true := by
  obtain ⟨v, hv⟩ := Option.isSome_iff_exists.1 h
  exact has_of (Ka o hv)
theorem has_new {w : World} {cs : Array Value} {t : TypeId} {n i : Nat} (hn : n = w.heap.size) (hi : i < cs.size) : ((w.alloc (.cells cs t)).cell? ⟨n, i, none⟩).isSome = true :=
  has_of (Kw hn (Array.getElem?_eq_getElem hi))
theorem cell_set_off {w : World} {b i j : Nat} {u v : Value} (hne : i ≠ j) (h : w.cell? ⟨b, i, none⟩ = some v) : (w.setCell ⟨b, j, none⟩ u).cell? ⟨b, i, none⟩ = some v := by
  rw [World.cell?_setCell_other _ _ _ _ (by intro e; injection e with _ e _; omega)]; exact h
theorem setCell_os (w : World) (a : Addr) (v : Value) : (w.setCell a v).os = w.os := rfl
theorem setCell_tape (w : World) (a : Addr) (v : Value) : (w.setCell a v).tape = w.tape := rfl
theorem setCell_output (w : World) (a : Addr) (v : Value) : (w.setCell a v).output = w.output := rfl
theorem alloc_os (w : World) (o : Obj) : (w.alloc o).os = w.os := rfl
theorem alloc_tape (w : World) (o : Obj) : (w.alloc o).tape = w.tape := rfl
theorem alloc_output (w : World) (o : Obj) : (w.alloc o).output = w.output := rfl
theorem setCell_size (w : World) (a : Addr) (v : Value) : (w.setCell a v).heap.size = w.heap.size := by simp [World.setCell]
theorem sps_post {n : Nat} {X : Nat → Sp} {er : Int} {W W' : World} {e : Ending} (h : SpsPost n X er W e W') : ∃ (A : Option Addr) (c m : Nat), e = .returned (.tuple #[.slice A m c, .int .i64 er]) ∧ SpRow W' W'.heap.size A m X ∧ m = (if er = 0 then n else 0) ∧ Below W.heap.size W W' := by
  by_cases he : er = 0
  · obtain ⟨A, c, e0, hr, _, hb⟩ := sps_of h he
    exact ⟨A, c, n, by rw [e0, he], hr, by rw [if_pos he], hb⟩
  · rcases h with ⟨h0, _⟩ | ⟨_, e0, hb⟩
    · exact absurd h0 he
    · exact ⟨none, 0, 0, e0, fun k hk => absurd hk (by omega), by rw [if_neg he], hb⟩
structure Rd where
  bA : Option Addr
  dA : Option Addr
  vA : Option Addr
  bc : Nat
  dc : Nat
  vc : Nat
def Rd.v (d : Rd) (r : Rw) : Value := rwV d.bA r.n d.bc d.dA r.d d.dc d.vA r.m d.vc
def Rd.at (d : Rd) (w : World) (b : Nat) (r : Rw) : Prop := RwAt w b r d.bA d.bc d.dA d.dc d.vA d.vc
def Rd.row (d : Rd) (w : World) (r : Rw) : Prop := RwRow w w.heap.size r d.bA d.bc d.dA d.dc d.vA d.vc
structure OwnRw (w : World) (lo : Nat) (r : Rw) (d : Rd) : Prop where
  b : OwnBn w lo d.bA r.n r.B
  q : OwnInt w lo d.dA r.d r.D
  v : OwnWg w lo d.vA r.m r.V
  c : r.n ≤ d.bc ∧ r.d ≤ d.dc ∧ r.m ≤ d.vc
theorem OwnRw.keep {w w' : World} {lo : Nat} {r : Rw} {d : Rd} (h : OwnRw w lo r d) (hk : ∀ b, lo ≤ b → b < w.heap.size → w'.heap[b]? = w.heap[b]?) : OwnRw w' lo r d := ⟨h.b.keep hk, h.q.keep hk, h.v.keep hk, h.c⟩
theorem OwnRw.row {w : World} {lo : Nat} {r : Rw} {d : Rd} (h : OwnRw w lo r d) (h1 : r.n ≤ 1000) (h2 : r.d ≤ 1000) (h3 : r.m ≤ 1000) : d.row w r := ⟨Nat.le_refl _, h.b.row, h.q.row, h.v.row, h1, h2, h3, h.c.1, h.c.2.1, h.c.2.2⟩
theorem OwnPost.own {r : Rw} {W W' : World} {e : Ending} (h : OwnPost r W e W') : ∃ (bA dA vA : Option Addr) (bc dc vc : Nat), e = .returned (rwV bA r.n bc dA r.d dc vA r.m vc) ∧ OwnRw W' W.heap.size r ⟨bA, dA, vA, bc, dc, vc⟩ ∧ Below W.heap.size W W' := by
  obtain ⟨bA, dA, vA, bc, dc, vc, h1, h2, h3, h4, h5, h6⟩ := h
  obtain ⟨A, c, e1, ho, hc⟩ := OwnWg.of h4
  injection e1 with e1 _ e3
  subst e1 e3
  exact ⟨bA, dA, vA, bc, dc, vc, h1, ⟨h2, h3, ho, h5⟩, h6⟩
theorem TheirPost.own {r : Rw} {W W' : World} {e : Ending} (h : TheirPost r W e W') : ∃ (bA dA vA : Option Addr) (bc dc vc : Nat), e = .returned (rwV bA r.n bc dA r.d dc vA r.m vc) ∧ OwnRw W' W.heap.size r ⟨bA, dA, vA, bc, dc, vc⟩ ∧ Below W.heap.size W W' := by
  obtain ⟨bA, dA, vA, bc, dc, vc, h1, h2, h3, h4, h5, h6⟩ := h
  exact ⟨bA, dA, vA, bc, dc, vc, h1, ⟨h2, h3, h4, h5⟩, h6⟩
/-- the row, its copy, and that of the reference, in their boxes -/
structure LawB (W w : World) (r : Rw) (b1 b2 : Nat) (d d1 d2 : Rd) : Prop where
  s0 : d.at w W.heap.size r
  s1 : d1.at w b1 r
  s2 : d2.at w b2 r
  r0 : d.row w r
  r1 : d1.row w r
  r2 : d2.row w r
  l : Below W.heap.size W w
theorem LawB.later {W w w' : World} {r : Rw} {b1 b2 : Nat} {d d1 d2 : Rd} (h : LawB W w r b1 b2 d d1 d2) (hb : Below w.heap.size w w') : LawB W w' r b1 b2 d d1 d2 :=
  ⟨RwAt.later h.s0 hb, RwAt.later h.s1 hb, RwAt.later h.s2 hb, RwRow.onW h.r0 hb, RwRow.onW h.r1 hb, RwRow.onW h.r2 hb, h.l.trans (hb.mono h.l.size)⟩
theorem lawb_close {r : Rw} {d d1 d2 : Rd} {lop lot b1 b2 : Nat} {W w1 wp wm wt wX : World} (H0 : d.row W r) (HB1 : Below W.heap.size W w1) (h0 : W.heap.size < w1.heap.size) (hA : d.at w1 W.heap.size r)
    (hP : Below w1.heap.size w1 wp) (hM : Below wp.heap.size wp wm) (hT : Below wm.heap.size wm wt) (hop : OwnRw wp lop r d1) (htp : OwnRw wt lot r d2)
    (hos : wX.os = wt.os) (htape : wX.tape = wt.tape) (hout : wX.output = wt.output) (hsz : wt.heap.size ≤ wX.heap.size)
    (hF : ∀ i, i < wt.heap.size → i ≠ b1 → i ≠ b2 → wX.heap[i]? = wt.heap[i]?)
    (k1 : w1.heap.size ≤ b1 ∧ (b1 < lop ∨ wp.heap.size ≤ b1) ∧ (b1 < lot ∨ wt.heap.size ≤ b1)) (k2 : w1.heap.size ≤ b2 ∧ (b2 < lop ∨ wp.heap.size ≤ b2) ∧ (b2 < lot ∨ wt.heap.size ≤ b2))
    (s1 : d1.at wX b1 r) (s2 : d2.at wX b2 r) :
    LawB W wX r b1 b2 d d1 d2 ∧ ∀ i, i < wm.heap.size → i ≠ b1 → i ≠ b2 → wX.heap[i]? = wm.heap[i]? := by
  have z1 := HB1.size
  have z2 := hP.size
  have z3 := hM.size
  have z4 := hT.size
  have eT : ∀ i, i < wm.heap.size → i ≠ b1 → i ≠ b2 → wX.heap[i]? = wm.heap[i]? := fun i hi h1 h2 => (hF i (by omega) h1 h2).trans (hT.block i hi)
  have eM : ∀ i, i < wp.heap.size → i ≠ b1 → i ≠ b2 → wX.heap[i]? = wp.heap[i]? := fun i hi h1 h2 => (eT i (by omega) h1 h2).trans (hM.block i hi)
  have eP : ∀ i, i < w1.heap.size → wX.heap[i]? = w1.heap[i]? := fun i hi => (eM i (by omega) (by omega) (by omega)).trans (hP.block i hi)
  have BX : Below W.heap.size W wX := HB1.trans ⟨hos.trans (hT.os.trans (hM.os.trans hP.os)), htape.trans (hT.tape.trans (hM.tape.trans hP.tape)), hout.trans (hT.output.trans (hM.output.trans hP.output)), by omega, fun i hi => eP i (by omega)⟩
  exact ⟨⟨RwAt.same hA (eP _ h0), s1, s2, RwRow.onW H0 BX,
    (hop.keep (fun b hl hb => eM b hb (by omega) (by omega))).row H0.n1 H0.d1 H0.m1,
    (htp.keep (fun b hl hb => hF b hb (by omega) (by omega))).row H0.n1 H0.d1 H0.m1, BX⟩, eT⟩
theorem lawb_close3 {r : Rw} {d d1 d2 : Rd} {lop lom lot b1 b2 : Nat} {W w1 wp wm wt wX : World} {cA mA : Option Addr} {n : Nat} {X : Nat → Int} (H0 : d.row W r) (HB1 : Below W.heap.size W w1) (h0 : W.heap.size < w1.heap.size) (hA : d.at w1 W.heap.size r)
    (hP : Below w1.heap.size w1 wp) (hM : Below wp.heap.size wp wm) (hT : Below wm.heap.size wm wt) (hop : OwnRw wp lop r d1) (htp : OwnRw wt lot r d2) (hc : IntRow W W.heap.size cA n X) (hom : OwnInt wm lom mA n X)
    (hos : wX.os = wt.os) (htape : wX.tape = wt.tape) (hout : wX.output = wt.output) (hsz : wt.heap.size ≤ wX.heap.size)
    (hF : ∀ i, i < wt.heap.size → i ≠ b1 → i ≠ b2 → wX.heap[i]? = wt.heap[i]?)
    (k1 : w1.heap.size ≤ b1 ∧ (b1 < lop ∨ wp.heap.size ≤ b1) ∧ (b1 < lot ∨ wt.heap.size ≤ b1)) (k2 : w1.heap.size ≤ b2 ∧ (b2 < lop ∨ wp.heap.size ≤ b2) ∧ (b2 < lot ∨ wt.heap.size ≤ b2)) (k3 : (b1 < lom ∨ wm.heap.size ≤ b1) ∧ (b2 < lom ∨ wm.heap.size ≤ b2))
    (s1 : d1.at wX b1 r) (s2 : d2.at wX b2 r) :
    Hid (LawB W wX r b1 b2 d d1 d2) ∧ Hid (IntRow wX wX.heap.size cA n X) ∧ Hid (IntRow wX wX.heap.size mA n X) := by
  obtain ⟨h1, h2⟩ := lawb_close H0 HB1 h0 hA hP hM hT hop htp hos htape hout hsz hF k1 k2 s1 s2
  exact ⟨Lib.hid h1, Lib.hid ((hc.below h1.l).mono h1.l.size), Lib.hid (hom.keep (fun b hl hb => h2 b hb (by omega) (by omega))).row⟩
theorem RowIn.row {w : World} {r : Rw} {bA : Option Addr} {bc : Nat} {dA : Option Addr} {dc : Nat} {vA : Option Addr} {vc : Nat} (h : RowIn w r bA bc dA dc vA vc) (hl : r.longB = false) : RwRow w w.heap.size r bA bc dA dc vA vc := by
  unfold Rw.longB at hl
  simp only [Bool.or_eq_false_iff, decide_eq_false_iff_not] at hl
  obtain ⟨h1, h2, h3, h4, h5, h6⟩ := h
  exact ⟨Nat.le_refl _, h1, h2, h3, by omega, by omega, by omega, h4, h5, h6⟩
end Go.Proofs.YtnnikeolgknfoaaGreat

set_option linter.unusedSimpArgs false
set_option linter.unusedVariables false
namespace Go.Proofs.YtnnikeolgknfoaaGreat
open Go.RowKit Go.Shelf

set_option maxRecDepth 100000 in
set_option maxHeartbeats 0 in
theorem days_law (r : Rw) (b : Int) (cA : Option Addr) (n cc : Nat) (X : Nat → Int) (k mo : Int) (bA dA vA : Option Addr) (bc dc vc : Nat) (W : World) (hrow : RwRow W W.heap.size r bA bc dA dc vA vc) (hlong : r.longB = false) (hn5 : n ≤ 5) (hch : IntRow W W.heap.size cA n X) :
    Calls Tryz.prog 4 #[rwV bA r.n bc dA r.d dc vA r.m vc, .int .i64 b, .slice cA n cc, .int .i64 k, .int .i64 mo] W fun e W' => e = .returned (.bool true) ∧ Below W.heap.size W W' := by
  have H0 := Lib.hid hrow
  have HCH := Lib.hid hch
  have g5 : ¬ (5 : Int) < (n : Int) := by omega
  clear hrow hch
  go_enter Tryz.func4, Tryz.ntmps4
  go_wp2_with fail
  refine (long_any r bA dA vA bc dc vc _).mono ?_
  rintro e w1 ⟨rfl, hb1⟩
  rw [hlong]
  have HB1 := Lib.hid (show Below W.heap.size W w1 from (by repeat (first | (with_reducible first | exact Below.refl _ _ | refine Below.drew ?_ | refine below_drewN ?_ _) | ((with_reducible first | refine Lc ?_ ?_ _ | refine Ls ?_ ?_ _ | refine Lv (by assumption) ?_ ?_); · first | exact Nat.le_refl _ | omega | (simp; done) | (simp; omega) | (simp at *; omega)))))
  have hs1 : W.heap.size < w1.heap.size := by have := hb1.size; simp only [World.size_alloc, World.size_drew] at this; omega
  have a0 : w1.cell? ⟨W.heap.size, 0, none⟩ = some (.slice bA r.n bc) := Kb hb1 (by (repeat' refine And.intro ?_ ?_) <;> (repeat (first | with_reducible assumption | (simp; done) | (with_reducible first | refine Kd ?_ | refine Kn ?_ | refine Kb (by assumption) ?_) | ((with_reducible first | refine Kw ?_ ?_ | refine Fw ?_) <;> first | with_reducible rfl | (simp; done)) | (with_reducible first | refine Ka _ ?_ | refine Ks _ (by first | exact Nat.le_refl _ | omega | (simp; done) | (simp; omega)) ?_ | refine Fd ?_ | refine Fn ?_ | refine Fb (by assumption) (by first | exact Nat.le_refl _ | omega | (simp; done) | (simp; omega)) ?_ | refine Fa _ (by first | exact Nat.le_refl _ | omega | (simp; done) | (simp; omega)) ?_ | refine Fs _ ?_))))
  have a1 : w1.cell? ⟨W.heap.size, 1, none⟩ = some (.slice dA r.d dc) := Kb hb1 (by (repeat' refine And.intro ?_ ?_) <;> (repeat (first | with_reducible assumption | (simp; done) | (with_reducible first | refine Kd ?_ | refine Kn ?_ | refine Kb (by assumption) ?_) | ((with_reducible first | refine Kw ?_ ?_ | refine Fw ?_) <;> first | with_reducible rfl | (simp; done)) | (with_reducible first | refine Ka _ ?_ | refine Ks _ (by first | exact Nat.le_refl _ | omega | (simp; done) | (simp; omega)) ?_ | refine Fd ?_ | refine Fn ?_ | refine Fb (by assumption) (by first | exact Nat.le_refl _ | omega | (simp; done) | (simp; omega)) ?_ | refine Fa _ (by first | exact Nat.le_refl _ | omega | (simp; done) | (simp; omega)) ?_ | refine Fs _ ?_))))
  have a2 : w1.cell? ⟨W.heap.size, 2, none⟩ = some (.slice vA r.m vc) := Kb hb1 (by (repeat' refine And.intro ?_ ?_) <;> (repeat (first | with_reducible assumption | (simp; done) | (with_reducible first | refine Kd ?_ | refine Kn ?_ | refine Kb (by assumption) ?_) | ((with_reducible first | refine Kw ?_ ?_ | refine Fw ?_) <;> first | with_reducible rfl | (simp; done)) | (with_reducible first | refine Ka _ ?_ | refine Ks _ (by first | exact Nat.le_refl _ | omega | (simp; done) | (simp; omega)) ?_ | refine Fd ?_ | refine Fn ?_ | refine Fb (by assumption) (by first | exact Nat.le_refl _ | omega | (simp; done) | (simp; omega)) ?_ | refine Fa _ (by first | exact Nat.le_refl _ | omega | (simp; done) | (simp; omega)) ?_ | refine Fs _ ?_))))
  have HA := Lib.hid (show RwAt w1 W.heap.size r bA bc dA dc vA vc from ⟨a0, a1, a2⟩)
  clear hb1 hlong
  go_upto_region 3 with fail
  go_cut [11, 12, 13] (fun x y z wx => ∃ (b1 b2 : Nat) (d1 d2 : Rd) (mA : Option Addr) (mc : Nat), x = .pointer (some ⟨b1, 0, none⟩) ∧ y = .slice mA n mc ∧ z = .pointer (some ⟨b2, 0, none⟩) ∧ Hid (LawB W wx r b1 b2 ⟨bA, dA, vA, bc, dc, vc⟩ d1 d2) ∧ Hid (IntRow wx wx.heap.size cA n X) ∧ Hid (IntRow wx wx.heap.size mA n X))
  case first =>
    go_region_held3 (fun w' => w'.cell? ⟨W.heap.size, 0, none⟩ = some (.slice bA r.n bc) ∧ w'.cell? ⟨W.heap.size, 1, none⟩ = some (.slice dA r.d dc) ∧ w'.cell? ⟨W.heap.size, 2, none⟩ = some (.slice vA r.m vc)) ((go_split_ands; (repeat' refine And.intro ?_ ?_) <;> (repeat (first | with_reducible assumption | (simp; done) | (with_reducible first | refine Kd ?_ | refine Kn ?_ | refine Kb (by assumption) ?_) | ((with_reducible first | refine Kw ?_ ?_ | refine Fw ?_) <;> first | with_reducible rfl | (simp; done)) | (with_reducible first | refine Ka _ ?_ | refine Ks _ (by first | exact Nat.le_refl _ | omega | (simp; done) | (simp; omega)) ?_ | refine Fd ?_ | refine Fn ?_ | refine Fb (by assumption) (by first | exact Nat.le_refl _ | omega | (simp; done) | (simp; omega)) ?_ | refine Fa _ (by first | exact Nat.le_refl _ | omega | (simp; done) | (simp; omega)) ?_ | refine Fs _ ?_))))) (first | (go_at_call 13; refine (own_any r bA dA vA bc dc vc _ (H0.out.onW (show Below W.heap.size W _ from HB1.out.trans ((show Below w1.heap.size w1 _ from (by repeat (first | (with_reducible first | exact Below.refl _ _ | refine Below.drew ?_ | refine below_drewN ?_ _) | ((with_reducible first | refine Lc ?_ ?_ _ | refine Ls ?_ ?_ _ | refine Lv (by assumption) ?_ ?_); · first | exact Nat.le_refl _ | omega | (simp; done) | (simp; omega) | (simp at *; omega))))).mono (by omega))))).mono ?_; intro e wp hp; obtain ⟨bA1, dA1, vA1, bc1, dc1, vc1, rfl, hop, hbp⟩ := OwnPost.own hp; clear hp; have hhP := Lib.hid (show Below w1.heap.size w1 wp from (by repeat (first | (with_reducible first | exact Below.refl _ _ | assumption | refine Below.drew ?_) | ((with_reducible first | refine Lc ?_ ?_ _ | refine Ls ?_ ?_ _ | refine Lv (by assumption) ?_ ?_); · first | exact Nat.le_refl _ | omega | (dsimp only; omega) | (simp only [World.size_alloc, World.size_drew, World.heap_drewN]; omega) | (simp; omega))))); have hzp := hbp.size; (try simp only [World.size_drew, World.heap_drewN, World.size_alloc] at hzp);  (try (refine lay_in (A := ((wp.cell? ⟨w1.heap.size, 0, none⟩ = some (.slice none 0 0) ∧ wp.cell? ⟨w1.heap.size, 1, none⟩ = some (.slice none 0 0) ∧ wp.cell? ⟨w1.heap.size, 2, none⟩ = some (.slice none 0 0)) ∧ wp.frozen? ⟨w1.heap.size, 0, none⟩ = false ∧ wp.frozen? ⟨w1.heap.size, 1, none⟩ = false ∧ wp.frozen? ⟨w1.heap.size, 2, none⟩ = false)) ?_ ?_; (· ((go_split_ands; (repeat' refine And.intro ?_ ?_) <;> (repeat (first | with_reducible assumption | (simp; done) | (with_reducible first | refine Kd ?_ | refine Kn ?_ | refine Kb (by assumption) ?_) | ((with_reducible first | refine Kw ?_ ?_ | refine Fw ?_) <;> first | with_reducible rfl | (simp; done)) | (with_reducible first | refine Ka _ ?_ | refine Ks _ (by first | exact Nat.le_refl _ | omega | (simp; done) | (simp; omega)) ?_ | refine Fd ?_ | refine Fn ?_ | refine Fb (by assumption) (by first | exact Nat.le_refl _ | omega | (simp; done) | (simp; omega)) ?_ | refine Fa _ (by first | exact Nat.le_refl _ | omega | (simp; done) | (simp; omega)) ?_ | refine Fs _ ?_)))))); rintro ⟨⟨_, _, _⟩, _, _, _⟩)); (try (refine lay_in (A := ((wp.cell? ⟨w1.heap.size + 1, 0, none⟩ = some (.slice none 0 0) ∧ wp.cell? ⟨w1.heap.size + 1, 1, none⟩ = some (.slice none 0 0) ∧ wp.cell? ⟨w1.heap.size + 1, 2, none⟩ = some (.slice none 0 0)) ∧ wp.frozen? ⟨w1.heap.size + 1, 0, none⟩ = false ∧ wp.frozen? ⟨w1.heap.size + 1, 1, none⟩ = false ∧ wp.frozen? ⟨w1.heap.size + 1, 2, none⟩ = false)) ?_ ?_; (· ((go_split_ands; (repeat' refine And.intro ?_ ?_) <;> (repeat (first | with_reducible assumption | (simp; done) | (with_reducible first | refine Kd ?_ | refine Kn ?_ | refine Kb (by assumption) ?_) | ((with_reducible first | refine Kw ?_ ?_ | refine Fw ?_) <;> first | with_reducible rfl | (simp; done)) | (with_reducible first | refine Ka _ ?_ | refine Ks _ (by first | exact Nat.le_refl _ | omega | (simp; done) | (simp; omega)) ?_ | refine Fd ?_ | refine Fn ?_ | refine Fb (by assumption) (by first | exact Nat.le_refl _ | omega | (simp; done) | (simp; omega)) ?_ | refine Fa _ (by first | exact Nat.le_refl _ | omega | (simp; done) | (simp; omega)) ?_ | refine Fs _ ?_)))))); rintro ⟨⟨_, _, _⟩, _, _, _⟩))) | (go_at_call 21; refine (copy_int cA n cc X _ ((HCH.out.below (show Below W.heap.size W _ from HB1.out.trans ((show Below w1.heap.size w1 _ from (by repeat (first | (with_reducible first | exact Below.refl _ _ | refine Below.drew ?_ | refine below_drewN ?_ _) | ((with_reducible first | refine Lc ?_ ?_ _ | refine Ls ?_ ?_ _ | refine Lv (by assumption) ?_ ?_); · first | exact Nat.le_refl _ | omega | (simp; done) | (simp; omega) | (simp at *; omega))))).mono (by omega)))).mono (show Below W.heap.size W _ from HB1.out.trans ((show Below w1.heap.size w1 _ from (by repeat (first | (with_reducible first | exact Below.refl _ _ | refine Below.drew ?_ | refine below_drewN ?_ _) | ((with_reducible first | refine Lc ?_ ?_ _ | refine Ls ?_ ?_ _ | refine Lv (by assumption) ?_ ?_); · first | exact Nat.le_refl _ | omega | (simp; done) | (simp; omega) | (simp at *; omega))))).mono (by omega))).size) (by omega)).mono ?_; rintro e wm ⟨hbm, mA, mc, rfl, hom, hmc⟩; have hhM := Lib.hid (show Below wp.heap.size wp wm from (by repeat (first | (with_reducible first | exact Below.refl _ _ | assumption | refine Below.drew ?_) | ((with_reducible first | refine Lc ?_ ?_ _ | refine Ls ?_ ?_ _ | refine Lv (by assumption) ?_ ?_); · first | exact Nat.le_refl _ | omega | (dsimp only; omega) | (simp only [World.size_alloc, World.size_drew, World.heap_drewN]; omega) | (simp; omega))))); have hzm := hbm.size; (try simp only [World.size_drew, World.heap_drewN, World.size_alloc] at hzm);  (try (refine lay_in (A := ((wm.cell? ⟨w1.heap.size, 0, none⟩ = some (.slice none 0 0) ∧ wm.cell? ⟨w1.heap.size, 1, none⟩ = some (.slice none 0 0) ∧ wm.cell? ⟨w1.heap.size, 2, none⟩ = some (.slice none 0 0)) ∧ wm.frozen? ⟨w1.heap.size, 0, none⟩ = false ∧ wm.frozen? ⟨w1.heap.size, 1, none⟩ = false ∧ wm.frozen? ⟨w1.heap.size, 2, none⟩ = false)) ?_ ?_; (· ((go_split_ands; (repeat' refine And.intro ?_ ?_) <;> (repeat (first | with_reducible assumption | (simp; done) | (with_reducible first | refine Kd ?_ | refine Kn ?_ | refine Kb (by assumption) ?_) | ((with_reducible first | refine Kw ?_ ?_ | refine Fw ?_) <;> first | with_reducible rfl | (simp; done)) | (with_reducible first | refine Ka _ ?_ | refine Ks _ (by first | exact Nat.le_refl _ | omega | (simp; done) | (simp; omega)) ?_ | refine Fd ?_ | refine Fn ?_ | refine Fb (by assumption) (by first | exact Nat.le_refl _ | omega | (simp; done) | (simp; omega)) ?_ | refine Fa _ (by first | exact Nat.le_refl _ | omega | (simp; done) | (simp; omega)) ?_ | refine Fs _ ?_)))))); rintro ⟨⟨_, _, _⟩, _, _, _⟩)); (try (refine lay_in (A := ((wm.cell? ⟨w1.heap.size + 1, 0, none⟩ = some (.slice none 0 0) ∧ wm.cell? ⟨w1.heap.size + 1, 1, none⟩ = some (.slice none 0 0) ∧ wm.cell? ⟨w1.heap.size + 1, 2, none⟩ = some (.slice none 0 0)) ∧ wm.frozen? ⟨w1.heap.size + 1, 0, none⟩ = false ∧ wm.frozen? ⟨w1.heap.size + 1, 1, none⟩ = false ∧ wm.frozen? ⟨w1.heap.size + 1, 2, none⟩ = false)) ?_ ?_; (· ((go_split_ands; (repeat' refine And.intro ?_ ?_) <;> (repeat (first | with_reducible assumption | (simp; done) | (with_reducible first | refine Kd ?_ | refine Kn ?_ | refine Kb (by assumption) ?_) | ((with_reducible first | refine Kw ?_ ?_ | refine Fw ?_) <;> first | with_reducible rfl | (simp; done)) | (with_reducible first | refine Ka _ ?_ | refine Ks _ (by first | exact Nat.le_refl _ | omega | (simp; done) | (simp; omega)) ?_ | refine Fd ?_ | refine Fn ?_ | refine Fb (by assumption) (by first | exact Nat.le_refl _ | omega | (simp; done) | (simp; omega)) ?_ | refine Fa _ (by first | exact Nat.le_refl _ | omega | (simp; done) | (simp; omega)) ?_ | refine Fs _ ?_)))))); rintro ⟨⟨_, _, _⟩, _, _, _⟩)); (try (refine lay_in (A := ((wm.cell? ⟨wp.heap.size, 0, none⟩ = some (.slice none 0 0) ∧ wm.cell? ⟨wp.heap.size, 1, none⟩ = some (.slice none 0 0) ∧ wm.cell? ⟨wp.heap.size, 2, none⟩ = some (.slice none 0 0)) ∧ wm.frozen? ⟨wp.heap.size, 0, none⟩ = false ∧ wm.frozen? ⟨wp.heap.size, 1, none⟩ = false ∧ wm.frozen? ⟨wp.heap.size, 2, none⟩ = false)) ?_ ?_; (· ((go_split_ands; (repeat' refine And.intro ?_ ?_) <;> (repeat (first | with_reducible assumption | (simp; done) | (with_reducible first | refine Kd ?_ | refine Kn ?_ | refine Kb (by assumption) ?_) | ((with_reducible first | refine Kw ?_ ?_ | refine Fw ?_) <;> first | with_reducible rfl | (simp; done)) | (with_reducible first | refine Ka _ ?_ | refine Ks _ (by first | exact Nat.le_refl _ | omega | (simp; done) | (simp; omega)) ?_ | refine Fd ?_ | refine Fn ?_ | refine Fb (by assumption) (by first | exact Nat.le_refl _ | omega | (simp; done) | (simp; omega)) ?_ | refine Fa _ (by first | exact Nat.le_refl _ | omega | (simp; done) | (simp; omega)) ?_ | refine Fs _ ?_)))))); rintro ⟨⟨_, _, _⟩, _, _, _⟩)); (try (refine lay_in (A := ((wm.cell? ⟨wp.heap.size + 1, 0, none⟩ = some (.slice none 0 0) ∧ wm.cell? ⟨wp.heap.size + 1, 1, none⟩ = some (.slice none 0 0) ∧ wm.cell? ⟨wp.heap.size + 1, 2, none⟩ = some (.slice none 0 0)) ∧ wm.frozen? ⟨wp.heap.size + 1, 0, none⟩ = false ∧ wm.frozen? ⟨wp.heap.size + 1, 1, none⟩ = false ∧ wm.frozen? ⟨wp.heap.size + 1, 2, none⟩ = false)) ?_ ?_; (· ((go_split_ands; (repeat' refine And.intro ?_ ?_) <;> (repeat (first | with_reducible assumption | (simp; done) | (with_reducible first | refine Kd ?_ | refine Kn ?_ | refine Kb (by assumption) ?_) | ((with_reducible first | refine Kw ?_ ?_ | refine Fw ?_) <;> first | with_reducible rfl | (simp; done)) | (with_reducible first | refine Ka _ ?_ | refine Ks _ (by first | exact Nat.le_refl _ | omega | (simp; done) | (simp; omega)) ?_ | refine Fd ?_ | refine Fn ?_ | refine Fb (by assumption) (by first | exact Nat.le_refl _ | omega | (simp; done) | (simp; omega)) ?_ | refine Fa _ (by first | exact Nat.le_refl _ | omega | (simp; done) | (simp; omega)) ?_ | refine Fs _ ?_)))))); rintro ⟨⟨_, _, _⟩, _, _, _⟩))) | (go_at_call 14; refine (theirs_any r bA dA vA bc dc vc _ (H0.out.onW (show Below W.heap.size W _ from HB1.out.trans ((show Below w1.heap.size w1 _ from (by repeat (first | (with_reducible first | exact Below.refl _ _ | refine Below.drew ?_ | refine below_drewN ?_ _) | ((with_reducible first | refine Lc ?_ ?_ _ | refine Ls ?_ ?_ _ | refine Lv (by assumption) ?_ ?_); · first | exact Nat.le_refl _ | omega | (simp; done) | (simp; omega) | (simp at *; omega))))).mono (by omega))))).mono ?_; intro e wt hp; obtain ⟨bA2, dA2, vA2, bc2, dc2, vc2, rfl, htp, hbt⟩ := TheirPost.own hp; clear hp; have hhT := Lib.hid (show Below wm.heap.size wm wt from (by repeat (first | (with_reducible first | exact Below.refl _ _ | assumption | refine Below.drew ?_) | ((with_reducible first | refine Lc ?_ ?_ _ | refine Ls ?_ ?_ _ | refine Lv (by assumption) ?_ ?_); · first | exact Nat.le_refl _ | omega | (dsimp only; omega) | (simp only [World.size_alloc, World.size_drew, World.heap_drewN]; omega) | (simp; omega))))); have hzt := hbt.size; (try simp only [World.size_drew, World.heap_drewN, World.size_alloc] at hzt);  (try (refine lay_in (A := ((wt.cell? ⟨w1.heap.size, 0, none⟩ = some (.slice none 0 0) ∧ wt.cell? ⟨w1.heap.size, 1, none⟩ = some (.slice none 0 0) ∧ wt.cell? ⟨w1.heap.size, 2, none⟩ = some (.slice none 0 0)) ∧ wt.frozen? ⟨w1.heap.size, 0, none⟩ = false ∧ wt.frozen? ⟨w1.heap.size, 1, none⟩ = false ∧ wt.frozen? ⟨w1.heap.size, 2, none⟩ = false)) ?_ ?_; (· ((go_split_ands; (repeat' refine And.intro ?_ ?_) <;> (repeat (first | with_reducible assumption | (simp; done) | (with_reducible first | refine Kd ?_ | refine Kn ?_ | refine Kb (by assumption) ?_) | ((with_reducible first | refine Kw ?_ ?_ | refine Fw ?_) <;> first | with_reducible rfl | (simp; done)) | (with_reducible first | refine Ka _ ?_ | refine Ks _ (by first | exact Nat.le_refl _ | omega | (simp; done) | (simp; omega)) ?_ | refine Fd ?_ | refine Fn ?_ | refine Fb (by assumption) (by first | exact Nat.le_refl _ | omega | (simp; done) | (simp; omega)) ?_ | refine Fa _ (by first | exact Nat.le_refl _ | omega | (simp; done) | (simp; omega)) ?_ | refine Fs _ ?_)))))); rintro ⟨⟨_, _, _⟩, _, _, _⟩)); (try (refine lay_in (A := ((wt.cell? ⟨w1.heap.size + 1, 0, none⟩ = some (.slice none 0 0) ∧ wt.cell? ⟨w1.heap.size + 1, 1, none⟩ = some (.slice none 0 0) ∧ wt.cell? ⟨w1.heap.size + 1, 2, none⟩ = some (.slice none 0 0)) ∧ wt.frozen? ⟨w1.heap.size + 1, 0, none⟩ = false ∧ wt.frozen? ⟨w1.heap.size + 1, 1, none⟩ = false ∧ wt.frozen? ⟨w1.heap.size + 1, 2, none⟩ = false)) ?_ ?_; (· ((go_split_ands; (repeat' refine And.intro ?_ ?_) <;> (repeat (first | with_reducible assumption | (simp; done) | (with_reducible first | refine Kd ?_ | refine Kn ?_ | refine Kb (by assumption) ?_) | ((with_reducible first | refine Kw ?_ ?_ | refine Fw ?_) <;> first | with_reducible rfl | (simp; done)) | (with_reducible first | refine Ka _ ?_ | refine Ks _ (by first | exact Nat.le_refl _ | omega | (simp; done) | (simp; omega)) ?_ | refine Fd ?_ | refine Fn ?_ | refine Fb (by assumption) (by first | exact Nat.le_refl _ | omega | (simp; done) | (simp; omega)) ?_ | refine Fa _ (by first | exact Nat.le_refl _ | omega | (simp; done) | (simp; omega)) ?_ | refine Fs _ ?_)))))); rintro ⟨⟨_, _, _⟩, _, _, _⟩)); (try (refine lay_in (A := ((wt.cell? ⟨wp.heap.size, 0, none⟩ = some (.slice none 0 0) ∧ wt.cell? ⟨wp.heap.size, 1, none⟩ = some (.slice none 0 0) ∧ wt.cell? ⟨wp.heap.size, 2, none⟩ = some (.slice none 0 0)) ∧ wt.frozen? ⟨wp.heap.size, 0, none⟩ = false ∧ wt.frozen? ⟨wp.heap.size, 1, none⟩ = false ∧ wt.frozen? ⟨wp.heap.size, 2, none⟩ = false)) ?_ ?_; (· ((go_split_ands; (repeat' refine And.intro ?_ ?_) <;> (repeat (first | with_reducible assumption | (simp; done) | (with_reducible first | refine Kd ?_ | refine Kn ?_ | refine Kb (by assumption) ?_) | ((with_reducible first | refine Kw ?_ ?_ | refine Fw ?_) <;> first | with_reducible rfl | (simp; done)) | (with_reducible first | refine Ka _ ?_ | refine Ks _ (by first | exact Nat.le_refl _ | omega | (simp; done) | (simp; omega)) ?_ | refine Fd ?_ | refine Fn ?_ | refine Fb (by assumption) (by first | exact Nat.le_refl _ | omega | (simp; done) | (simp; omega)) ?_ | refine Fa _ (by first | exact Nat.le_refl _ | omega | (simp; done) | (simp; omega)) ?_ | refine Fs _ ?_)))))); rintro ⟨⟨_, _, _⟩, _, _, _⟩)); (try (refine lay_in (A := ((wt.cell? ⟨wp.heap.size + 1, 0, none⟩ = some (.slice none 0 0) ∧ wt.cell? ⟨wp.heap.size + 1, 1, none⟩ = some (.slice none 0 0) ∧ wt.cell? ⟨wp.heap.size + 1, 2, none⟩ = some (.slice none 0 0)) ∧ wt.frozen? ⟨wp.heap.size + 1, 0, none⟩ = false ∧ wt.frozen? ⟨wp.heap.size + 1, 1, none⟩ = false ∧ wt.frozen? ⟨wp.heap.size + 1, 2, none⟩ = false)) ?_ ?_; (· ((go_split_ands; (repeat' refine And.intro ?_ ?_) <;> (repeat (first | with_reducible assumption | (simp; done) | (with_reducible first | refine Kd ?_ | refine Kn ?_ | refine Kb (by assumption) ?_) | ((with_reducible first | refine Kw ?_ ?_ | refine Fw ?_) <;> first | with_reducible rfl | (simp; done)) | (with_reducible first | refine Ka _ ?_ | refine Ks _ (by first | exact Nat.le_refl _ | omega | (simp; done) | (simp; omega)) ?_ | refine Fd ?_ | refine Fn ?_ | refine Fb (by assumption) (by first | exact Nat.le_refl _ | omega | (simp; done) | (simp; omega)) ?_ | refine Fa _ (by first | exact Nat.le_refl _ | omega | (simp; done) | (simp; omega)) ?_ | refine Fs _ ?_)))))); rintro ⟨⟨_, _, _⟩, _, _, _⟩)); (try (refine lay_in (A := ((wt.cell? ⟨wm.heap.size, 0, none⟩ = some (.slice none 0 0) ∧ wt.cell? ⟨wm.heap.size, 1, none⟩ = some (.slice none 0 0) ∧ wt.cell? ⟨wm.heap.size, 2, none⟩ = some (.slice none 0 0)) ∧ wt.frozen? ⟨wm.heap.size, 0, none⟩ = false ∧ wt.frozen? ⟨wm.heap.size, 1, none⟩ = false ∧ wt.frozen? ⟨wm.heap.size, 2, none⟩ = false)) ?_ ?_; (· ((go_split_ands; (repeat' refine And.intro ?_ ?_) <;> (repeat (first | with_reducible assumption | (simp; done) | (with_reducible first | refine Kd ?_ | refine Kn ?_ | refine Kb (by assumption) ?_) | ((with_reducible first | refine Kw ?_ ?_ | refine Fw ?_) <;> first | with_reducible rfl | (simp; done)) | (with_reducible first | refine Ka _ ?_ | refine Ks _ (by first | exact Nat.le_refl _ | omega | (simp; done) | (simp; omega)) ?_ | refine Fd ?_ | refine Fn ?_ | refine Fb (by assumption) (by first | exact Nat.le_refl _ | omega | (simp; done) | (simp; omega)) ?_ | refine Fa _ (by first | exact Nat.le_refl _ | omega | (simp; done) | (simp; omega)) ?_ | refine Fs _ ?_)))))); rintro ⟨⟨_, _, _⟩, _, _, _⟩)); (try (refine lay_in (A := ((wt.cell? ⟨wm.heap.size + 1, 0, none⟩ = some (.slice none 0 0) ∧ wt.cell? ⟨wm.heap.size + 1, 1, none⟩ = some (.slice none 0 0) ∧ wt.cell? ⟨wm.heap.size + 1, 2, none⟩ = some (.slice none 0 0)) ∧ wt.frozen? ⟨wm.heap.size + 1, 0, none⟩ = false ∧ wt.frozen? ⟨wm.heap.size + 1, 1, none⟩ = false ∧ wt.frozen? ⟨wm.heap.size + 1, 2, none⟩ = false)) ?_ ?_; (· ((go_split_ands; (repeat' refine And.intro ?_ ?_) <;> (repeat (first | with_reducible assumption | (simp; done) | (with_reducible first | refine Kd ?_ | refine Kn ?_ | refine Kb (by assumption) ?_) | ((with_reducible first | refine Kw ?_ ?_ | refine Fw ?_) <;> first | with_reducible rfl | (simp; done)) | (with_reducible first | refine Ka _ ?_ | refine Ks _ (by first | exact Nat.le_refl _ | omega | (simp; done) | (simp; omega)) ?_ | refine Fd ?_ | refine Fn ?_ | refine Fb (by assumption) (by first | exact Nat.le_refl _ | omega | (simp; done) | (simp; omega)) ?_ | refine Fa _ (by first | exact Nat.le_refl _ | omega | (simp; done) | (simp; omega)) ?_ | refine Fs _ ?_)))))); rintro ⟨⟨_, _, _⟩, _, _, _⟩))) | fail)
    all_goals
      go_wp2_with fail
      go_meet
      refine ⟨_, _, ⟨bA1, dA1, vA1, bc1, dc1, vc1⟩, ⟨bA2, dA2, vA2, bc2, dc2, vc2⟩, mA, mc, rfl, rfl, rfl, ?_⟩
      refine lawb_close3 (d := ⟨bA, dA, vA, bc, dc, vc⟩) (d1 := ⟨bA1, dA1, vA1, bc1, dc1, vc1⟩) (d2 := ⟨bA2, dA2, vA2, bc2, dc2, vc2⟩) H0.out HB1.out hs1 HA.out hhP.out hhM.out hhT.out hop htp HCH.out hom ?os ?tp ?ou ?z ?f ?k1 ?k2 ?k3 ?s1 ?s2
      case os => simp only [setCell_os, alloc_os]
      case tp => simp only [setCell_tape, alloc_tape]
      case ou => simp only [setCell_output, alloc_output]
      case z => (try simp only [setCell_size, World.size_alloc]) <;> omega
      case f => intro i hi h1 h2; repeat (first | (with_reducible rfl) | ((with_reducible refine Eq.trans (set_heap _ ?_) ?_); (· first | exact h1 | exact h2 | (dsimp only; omega))) | ((with_reducible refine Eq.trans (Below.heap_alloc _ _ _ ?_) ?_); (· first | omega | (simp; omega))))
      case k1 => (try simp only [World.size_alloc, World.size_drew]) <;> omega
      case k2 => (try simp only [World.size_alloc, World.size_drew]) <;> omega
      case k3 => (try simp only [World.size_alloc, World.size_drew]) <;> omega
      case s1 => refine RwAt.mk ?_ ?_ ?_ <;> (repeat (first | (with_reducible assumption) | (with_reducible refine cell_set_is ?_) | (with_reducible refine has_set ?_) | (with_reducible exact has_of (by with_reducible assumption)) | ((with_reducible refine has_new ?_ ?_) <;> (first | (with_reducible rfl) | (simp; done))) | (with_reducible refine has_alloc ?_) | (with_reducible refine cell_set_off (by decide) ?_) | (with_reducible refine Kd ?_) | (with_reducible refine Kb (by with_reducible assumption) ?_) | ((with_reducible refine Kw ?_ ?_) <;> (first | (with_reducible rfl) | (simp; done))) | (with_reducible refine Ka _ ?_) | (with_reducible refine Ks _ (by first | exact Nat.le_refl _ | omega | (dsimp only; omega) | (simp only [World.size_alloc, World.size_drew, World.heap_drewN]; omega) | (simp; omega)) ?_)))
      case s2 => refine RwAt.mk ?_ ?_ ?_ <;> (repeat (first | (with_reducible assumption) | (with_reducible refine cell_set_is ?_) | (with_reducible refine has_set ?_) | (with_reducible exact has_of (by with_reducible assumption)) | ((with_reducible refine has_new ?_ ?_) <;> (first | (with_reducible rfl) | (simp; done))) | (with_reducible refine has_alloc ?_) | (with_reducible refine cell_set_off (by decide) ?_) | (with_reducible refine Kd ?_) | (with_reducible refine Kb (by with_reducible assumption) ?_) | ((with_reducible refine Kw ?_ ?_) <;> (first | (with_reducible rfl) | (simp; done))) | (with_reducible refine Ka _ ?_) | (with_reducible refine Ks _ (by first | exact Nat.le_refl _ | omega | (dsimp only; omega) | (simp only [World.size_alloc, World.size_drew, World.heap_drewN]; omega) | (simp; omega)) ?_)))
  case rest =>
    obtain ⟨b1, b2, ⟨bA1, dA1, vA1, bc1, dc1, vc1⟩, ⟨bA2, dA2, vA2, bc2, dc2, vc2⟩, mA, mc, rfl, rfl, rfl, HL, HC, HM⟩ := hcut
    clear HA HB1 a0 a1 a2 HCH
    obtain ⟨c0, c1, c2⟩ := HL.out.s1
    go_wp2_with fail
    refine (Expect_any r b n X mA mc (by omega) bA1 dA1 vA1 bc1 dc1 vc1 _ HL.out.r1 HM.out).mono ?_
    rintro e w3 ⟨rfl, hb3⟩
    have HL3 := Lib.hid (HL.out.later hb3)
    have HC3 := Lib.hid ((HC.out.below hb3).mono hb3.size)
    have HM3 := Lib.hid ((HM.out.below hb3).mono hb3.size)
    obtain ⟨⟨p1, p2⟩, hp⟩ : ∃ p, p = r.expR b n X Sp.a := ⟨_, rfl⟩
    obtain ⟨⟨q1, q2⟩, hq⟩ : ∃ p, p = r.expR b n X Sp.b := ⟨_, rfl⟩
    obtain ⟨er, her⟩ : ∃ p, p = r.expErr b n X := ⟨_, rfl⟩
    have HP := Lib.hid (And.intro hp (And.intro hq her))
    rw [← hp, ← hq, ← her]
    clear hb3 HL HC HM c0 c1 c2 hp hq her
    go_upto_region 5 with fail
    refine wp_world (fun w' => LawB W w' r b1 b2 ⟨bA, dA, vA, bc, dc, vc⟩ ⟨bA1, dA1, vA1, bc1, dc1, vc1⟩ ⟨bA2, dA2, vA2, bc2, dc2, vc2⟩ ∧ Below w3.heap.size w3 w' ∧ (w'.cell? ⟨w3.heap.size, 0, none⟩ = some (.int .i64 p1) ∧ w'.cell? ⟨w3.heap.size, 1, none⟩ = some (.int .i64 p2)) ∧ w'.cell? ⟨w3.heap.size + 1, 0, none⟩ = some (.int .i64 q1) ∧ w'.cell? ⟨w3.heap.size + 1, 1, none⟩ = some (.int .i64 q2)) ⟨HL3.out.later (by repeat (first | (with_reducible first | exact Below.refl _ _ | assumption | refine Below.drew ?_) | ((with_reducible first | refine Lc ?_ ?_ _ | refine Ls ?_ ?_ _ | refine Lv (by assumption) ?_ ?_); · first | exact Nat.le_refl _ | omega | (dsimp only; omega) | (simp only [World.size_alloc, World.size_drew, World.heap_drewN]; omega) | (simp; omega)))), (by repeat (first | (with_reducible first | exact Below.refl _ _ | assumption | refine Below.drew ?_) | ((with_reducible first | refine Lc ?_ ?_ _ | refine Ls ?_ ?_ _ | refine Lv (by assumption) ?_ ?_); · first | exact Nat.le_refl _ | omega | (dsimp only; omega) | (simp only [World.size_alloc, World.size_drew, World.heap_drewN]; omega) | (simp; omega)))), (by (repeat' refine And.intro ?_ ?_) <;> (repeat (first | with_reducible assumption | (simp; done) | (with_reducible first | refine Kd ?_ | refine Kn ?_ | refine Kb (by assumption) ?_) | ((with_reducible first | refine Kw ?_ ?_ | refine Fw ?_) <;> first | with_reducible rfl | (simp; done)) | (with_reducible first | refine Ka _ ?_ | refine Ks _ (by first | exact Nat.le_refl _ | omega | (simp; done) | (simp; omega)) ?_ | refine Fd ?_ | refine Fn ?_ | refine Fb (by assumption) (by first | exact Nat.le_refl _ | omega | (simp; done) | (simp; omega)) ?_ | refine Fa _ (by first | exact Nat.le_refl _ | omega | (simp; done) | (simp; omega)) ?_ | refine Fs _ ?_)))), (by (repeat' refine And.intro ?_ ?_) <;> (repeat (first | with_reducible assumption | (simp; done) | (with_reducible first | refine Kd ?_ | refine Kn ?_ | refine Kb (by assumption) ?_) | ((with_reducible first | refine Kw ?_ ?_ | refine Fw ?_) <;> first | with_reducible rfl | (simp; done)) | (with_reducible first | refine Ka _ ?_ | refine Ks _ (by first | exact Nat.le_refl _ | omega | (simp; done) | (simp; omega)) ?_ | refine Fd ?_ | refine Fn ?_ | refine Fb (by assumption) (by first | exact Nat.le_refl _ | omega | (simp; done) | (simp; omega)) ?_ | refine Fa _ (by first | exact Nat.le_refl _ | omega | (simp; done) | (simp; omega)) ?_ | refine Fs _ ?_))))⟩ ?_
    rintro w4 ⟨hl4, hb4, ⟨x0, x1⟩, y0, y1⟩
    have HL4 := Lib.hid hl4
    have HC4 := Lib.hid ((HC3.out.below hb4).mono hb4.size)
    have HM4 := Lib.hid ((HM3.out.below hb4).mono hb4.size)
    clear hl4 hb4 HL3 HC3 HM3
    obtain ⟨c0, c1, c2⟩ := HL4.out.s2
    go_wp2_with fail
    refine (rExpect_any r b n X cA cc (by omega) bA2 dA2 vA2 bc2 dc2 vc2 _ HL4.out.r2 HC4.out).mono ?_
    rintro e w5 ⟨rfl, hb5⟩
    rw [← HP.out.1, ← HP.out.2.1, ← HP.out.2.2]
    have HL5 := Lib.hid (HL4.out.later hb5)
    have HC5 := Lib.hid ((HC4.out.below hb5).mono hb5.size)
    have HM5 := Lib.hid ((HM4.out.below hb5).mono hb5.size)
    have x0 := Kb hb5 x0
    have x1 := Kb hb5 x1
    have y0 := Kb hb5 y0
    have y1 := Kb hb5 y1
    have her : (er != er) = false := by simp
    clear hb5 HL4 HC4 HM4 c0 c1 c2
    go_upto_region 8 with fail
    refine wp_world (fun w' => LawB W w' r b1 b2 ⟨bA, dA, vA, bc, dc, vc⟩ ⟨bA1, dA1, vA1, bc1, dc1, vc1⟩ ⟨bA2, dA2, vA2, bc2, dc2, vc2⟩ ∧ Below w5.heap.size w5 w') ⟨HL5.out.later (by repeat (first | (with_reducible first | exact Below.refl _ _ | assumption | refine Below.drew ?_) | ((with_reducible first | refine Lc ?_ ?_ _ | refine Ls ?_ ?_ _ | refine Lv (by assumption) ?_ ?_); · first | exact Nat.le_refl _ | omega | (dsimp only; omega) | (simp only [World.size_alloc, World.size_drew, World.heap_drewN]; omega) | (simp; omega)))), (by repeat (first | (with_reducible first | exact Below.refl _ _ | assumption | refine Below.drew ?_) | ((with_reducible first | refine Lc ?_ ?_ _ | refine Ls ?_ ?_ _ | refine Lv (by assumption) ?_ ?_); · first | exact Nat.le_refl _ | omega | (dsimp only; omega) | (simp only [World.size_alloc, World.size_drew, World.heap_drewN]; omega) | (simp; omega))))⟩ ?_
    rintro w6 ⟨hl6, hb6⟩
    have HL6 := Lib.hid hl6
    have HC6 := Lib.hid ((HC5.out.below hb6).mono hb6.size)
    have HM6 := Lib.hid ((HM5.out.below hb6).mono hb6.size)
    clear hl6 hb6 HL5 HC5 HM5 x0 x1 y0 y1 her HP
    obtain ⟨c0, c1, c2⟩ := HL6.out.s1
    go_wp2_with fail
    refine (Until_any r b k mo bA1 dA1 vA1 bc1 dc1 vc1 _ HL6.out.r1).mono ?_
    rintro e w7 ⟨rfl, hb7⟩
    have HL7 := Lib.hid (HL6.out.later hb7)
    have HC7 := Lib.hid ((HC6.out.below hb7).mono hb7.size)
    have HM7 := Lib.hid ((HM6.out.below hb7).mono hb7.size)
    obtain ⟨⟨s1, s2⟩, hs⟩ : ∃ s, s = r.untilS b k mo := ⟨_, rfl⟩
    obtain ⟨eu, heu⟩ : ∃ s, s = r.untilErr b k mo := ⟨_, rfl⟩
    have HS := Lib.hid (And.intro hs heu)
    rw [← hs, ← heu]
    clear hb7 HL6 HC6 HM6 c0 c1 c2 hs heu
    go_upto_region 9 with fail
    refine wp_world (fun w' => LawB W w' r b1 b2 ⟨bA, dA, vA, bc, dc, vc⟩ ⟨bA1, dA1, vA1, bc1, dc1, vc1⟩ ⟨bA2, dA2, vA2, bc2, dc2, vc2⟩ ∧ Below w7.heap.size w7 w' ∧ w'.cell? ⟨w7.heap.size, 0, none⟩ = some (.int .i64 s1) ∧ w'.cell? ⟨w7.heap.size, 1, none⟩ = some (.int .i64 s2)) ⟨HL7.out.later (by repeat (first | (with_reducible first | exact Below.refl _ _ | assumption | refine Below.drew ?_) | ((with_reducible first | refine Lc ?_ ?_ _ | refine Ls ?_ ?_ _ | refine Lv (by assumption) ?_ ?_); · first | exact Nat.le_refl _ | omega | (dsimp only; omega) | (simp only [World.size_alloc, World.size_drew, World.heap_drewN]; omega) | (simp; omega)))), (by repeat (first | (with_reducible first | exact Below.refl _ _ | assumption | refine Below.drew ?_) | ((with_reducible first | refine Lc ?_ ?_ _ | refine Ls ?_ ?_ _ | refine Lv (by assumption) ?_ ?_); · first | exact Nat.le_refl _ | omega | (dsimp only; omega) | (simp only [World.size_alloc, World.size_drew, World.heap_drewN]; omega) | (simp; omega)))), (by (repeat' refine And.intro ?_ ?_) <;> (repeat (first | with_reducible assumption | (simp; done) | (with_reducible first | refine Kd ?_ | refine Kn ?_ | refine Kb (by assumption) ?_) | ((with_reducible first | refine Kw ?_ ?_ | refine Fw ?_) <;> first | with_reducible rfl | (simp; done)) | (with_reducible first | refine Ka _ ?_ | refine Ks _ (by first | exact Nat.le_refl _ | omega | (simp; done) | (simp; omega)) ?_ | refine Fd ?_ | refine Fn ?_ | refine Fb (by assumption) (by first | exact Nat.le_refl _ | omega | (simp; done) | (simp; omega)) ?_ | refine Fa _ (by first | exact Nat.le_refl _ | omega | (simp; done) | (simp; omega)) ?_ | refine Fs _ ?_)))), (by (repeat' refine And.intro ?_ ?_) <;> (repeat (first | with_reducible assumption | (simp; done) | (with_reducible first | refine Kd ?_ | refine Kn ?_ | refine Kb (by assumption) ?_) | ((with_reducible first | refine Kw ?_ ?_ | refine Fw ?_) <;> first | with_reducible rfl | (simp; done)) | (with_reducible first | refine Ka _ ?_ | refine Ks _ (by first | exact Nat.le_refl _ | omega | (simp; done) | (simp; omega)) ?_ | refine Fd ?_ | refine Fn ?_ | refine Fb (by assumption) (by first | exact Nat.le_refl _ | omega | (simp; done) | (simp; omega)) ?_ | refine Fa _ (by first | exact Nat.le_refl _ | omega | (simp; done) | (simp; omega)) ?_ | refine Fs _ ?_))))⟩ ?_
    rintro w8 ⟨hl8, hb8, x0, x1⟩
    have HL8 := Lib.hid hl8
    have HC8 := Lib.hid ((HC7.out.below hb8).mono hb8.size)
    have HM8 := Lib.hid ((HM7.out.below hb8).mono hb8.size)
    clear hl8 hb8 HL7 HC7 HM7
    obtain ⟨c0, c1, c2⟩ := HL8.out.s2
    go_wp2_with fail
    refine (rUntil_any r b k mo bA2 dA2 vA2 bc2 dc2 vc2 _ HL8.out.r2).mono ?_
    rintro e w9 ⟨rfl, hb9⟩
    rw [← HS.out.1, ← HS.out.2]
    have HL9 := Lib.hid (HL8.out.later hb9)
    have HC9 := Lib.hid ((HC8.out.below hb9).mono hb9.size)
    have HM9 := Lib.hid ((HM8.out.below hb9).mono hb9.size)
    have x0 := Kb hb9 x0
    have x1 := Kb hb9 x1
    have heu : (eu == eu) = true := by simp
    clear hb9 HL8 HC8 HM8 c0 c1 c2
    obtain ⟨c0, c1, c2⟩ := HL9.out.s1
    obtain ⟨a0, a1, a2⟩ := HL9.out.s0
    go_wp2_with fail
    have hbA : Below w9.heap.size w9 (w9.alloc (.cells #[.int .i64 s1, .int .i64 s2] 49)) := (by repeat (first | (with_reducible first | exact Below.refl _ _ | assumption | refine Below.drew ?_) | ((with_reducible first | refine Lc ?_ ?_ _ | refine Ls ?_ ?_ _ | refine Lv (by assumption) ?_ ?_); · first | exact Nat.le_refl _ | omega | (dsimp only; omega) | (simp only [World.size_alloc, World.size_drew, World.heap_drewN]; omega) | (simp; omega))))
    refine (same_any r bA1 dA1 vA1 bA dA vA bc1 dc1 vc1 bc dc vc _ (HL9.out.later hbA).r1 (HL9.out.later hbA).r0).mono ?_
    rintro e w11 ⟨rfl, hb11⟩
    have hbB := hbA.trans (hb11.mono hbA.size)
    have HL11 := Lib.hid (HL9.out.later hbB)
    have HC11 := Lib.hid ((HC9.out.below hbB).mono hbB.size)
    have HM11 := Lib.hid ((HM9.out.below hbB).mono hbB.size)
    clear hb11 hbA hbB HL9 HC9 HM9 c0 c1 c2 a0 a1 a2 x0 x1
    go_wp2_with fail
    refine (alike_int mA cA n n mc cc X X _ HM11.out HC11.out (by omega)).mono ?_
    rintro e w12 ⟨rfl, hb12⟩
    have hal : (decide (n = n) && allN (fun k => decide (X k = X k)) n) = true := by
      rw [allN_iff.2 (fun k _ => by simp)]
      simp
    rw [hal]
    have HB12 := Lib.hid (HL11.out.later hb12).l
    clear hb12 HL11 HC11 HM11 hal
    go_wp2_with fail
    refine (awake_any _).mono ?_
    rintro e w13 ⟨rfl, hb13⟩
    have HB13 := Lib.hid (HB12.out.trans (hb13.mono HB12.out.size))
    clear hb13 HB12
    go_wp2_with fail
    go_ret
    exact ⟨rfl, HB13.out⟩

set_option maxRecDepth 100000 in
theorem days_long (r : Rw) (b : Int) (cA : Option Addr) (n cc : Nat) (k mo : Int) (bA dA vA : Option Addr) (bc dc vc : Nat) (W : World) (h : r.longB = true ∨ 5 < n) :
    Calls Tryz.prog 4 #[rwV bA r.n bc dA r.d dc vA r.m vc, .int .i64 b, .slice cA n cc, .int .i64 k, .int .i64 mo] W fun e W' => e = .returned (.bool true) ∧ Below W.heap.size W W' := by
  cases hl : r.longB with
  | true =>
    have H := Lib.hid hl
    clear h hl
    go_enter Tryz.func4, Tryz.ntmps4
    go_wp2_with fail
    refine (long_any r bA dA vA bc dc vc _).mono ?_
    rintro e w1 ⟨rfl, hb1⟩
    rw [H.out]
    have HB1 := Lib.hid (show Below W.heap.size W w1 from (by repeat (first | (with_reducible first | exact Below.refl _ _ | refine Below.drew ?_ | refine below_drewN ?_ _) | ((with_reducible first | refine Lc ?_ ?_ _ | refine Ls ?_ ?_ _ | refine Lv (by assumption) ?_ ?_); · first | exact Nat.le_refl _ | omega | (simp; done) | (simp; omega) | (simp at *; omega)))))
    clear hb1
    go_wp2_with fail
    refine (awake_any _).mono ?_
    rintro e w2 ⟨rfl, hb2⟩
    have HB2 := Lib.hid (HB1.out.trans (hb2.mono HB1.out.size))
    clear hb2
    go_wp2_with fail
    go_ret
    exact ⟨rfl, HB2.out⟩
  | false =>
    have g5 : (5 : Int) < (n : Int) := by
      rcases h with h | h
      · rw [hl] at h; cases h
      · omega
    have H := Lib.hid hl
    clear h hl
    go_enter Tryz.func4, Tryz.ntmps4
    go_wp2_with fail
    refine (long_any r bA dA vA bc dc vc _).mono ?_
    rintro e w1 ⟨rfl, hb1⟩
    rw [H.out]
    have HB1 := Lib.hid (show Below W.heap.size W w1 from (by repeat (first | (with_reducible first | exact Below.refl _ _ | refine Below.drew ?_ | refine below_drewN ?_ _) | ((with_reducible first | refine Lc ?_ ?_ _ | refine Ls ?_ ?_ _ | refine Lv (by assumption) ?_ ?_); · first | exact Nat.le_refl _ | omega | (simp; done) | (simp; omega) | (simp at *; omega)))))
    clear hb1
    go_wp2_with fail
    refine (awake_any _).mono ?_
    rintro e w2 ⟨rfl, hb2⟩
    have HB2 := Lib.hid (HB1.out.trans (hb2.mono HB1.out.size))
    clear hb2
    go_wp2_with fail
    go_ret
    exact ⟨rfl, HB2.out⟩
theorem days_any (b : Int) (cA : Option Addr) (n cc : Nat) (X : Nat → Int) (k mo : Int) (r : Rw) (bA dA vA : Option Addr) (bc dc vc : Nat) (W : World) (h : RowIn W r bA bc dA dc vA vc) (hc : IntRow W W.heap.size cA n X) :
    Calls Tryz.prog 4 #[rwV bA r.n bc dA r.d dc vA r.m vc, .int .i64 b, .slice cA n cc, .int .i64 k, .int .i64 mo] W fun e W' => e = .returned (.bool true) ∧ Below W.heap.size W W' := by
  by_cases hh : r.longB = true ∨ 5 < n
  · exact days_long r b cA n cc k mo bA dA vA bc dc vc W hh
  · have hl : r.longB = false := by
      cases e : r.longB with
      | false => rfl
      | true => exact absurd (.inl e) hh
    exact days_law r b cA n cc X k mo bA dA vA bc dc vc W (h.row hl) hl (Nat.not_lt.1 (fun e => hh (.inr e))) hc
end Go.Proofs.YtnnikeolgknfoaaGreat

set_option linter.unusedVariables false
namespace Go.Proofs.YtnnikeolgknfoaaGreat
open Go.RowKit Go.Shelf
theorem daysJ_any (r : Rw) (b : Int) (cA : Option Addr) (n cc : Nat) (X : Nat → Int) (k mo : Int) (bA dA vA : Option Addr) (bc dc vc : Nat) (W : World) (h : RowIn W r bA bc dA dc vA vc) (hc : IntRow W W.heap.size cA n X) (hcap : n ≤ cc) :
    Calls Tryz.prog 4 #[rwV bA r.n bc dA r.d dc vA r.m vc, .int .i64 b, .slice cA n cc, .int .i64 k, .int .i64 mo] W fun e W' => e = .returned (.bool true) ∧ Below W.heap.size W W' :=
  days_any b cA n cc X k mo r bA dA vA bc dc vc W h hc
end Go.Proofs.YtnnikeolgknfoaaGreat

set_option linter.unusedSimpArgs false
set_option linter.unusedVariables false
namespace Go.Proofs.YtnnikeolgknfoaaGreat
open Go.ChangeShapes Go.WideShapes Go.ChangeAt Go.RowKit Go.Deep Go.Joins
section
variable {H : Type} {enc : TypeId × Value → H} {P : Program} {w : World} {base : Nat} {spare : Nat → Bool} {held : Bool}
theorem trodAll_five {t t' t'' t3 t4 : TypeId} {args : Array Value} {ds : List (DataW H)} {ps : List MemPlace} (h : DataW.TrodAll enc P w base spare held [t, t', t'', t3, t4] args.toList ds ps) :
    ∃ v v' v'' v3 v4 d d' d'' d3 d4 p p' p'' p3 p4, args = #[v, v', v'', v3, v4] ∧ ds = [d, d', d'', d3, d4] ∧ ps = p ++ p' ++ p'' ++ p3 ++ p4 ∧ DataW.Trod enc P w base spare held t v d p ∧ DataW.Trod enc P w base spare held t' v' d' p' ∧ DataW.Trod enc P w base spare held t'' v'' d'' p'' ∧ DataW.Trod enc P w base spare held t3 v3 d3 p3 ∧ DataW.Trod enc P w base spare held t4 v4 d4 p4 := by
  obtain ⟨v, vs, d, ds', p, q, hargs, rfl, rfl, hd, hrest⟩ := trodAll_cons h
  obtain ⟨v', vs', d', ds'', p', q', rfl, rfl, rfl, hd', hrest'⟩ := trodAll_cons hrest
  obtain ⟨v'', vs'', d'', ds''', p'', q'', rfl, rfl, rfl, hd'', hrest''⟩ := trodAll_cons hrest'
  obtain ⟨v3, vs3, d3, ds3, p3, q3, rfl, rfl, rfl, hd3, hrest3⟩ := trodAll_cons hrest''
  obtain ⟨v4, vs4, d4, ds4, p4, q4, rfl, rfl, rfl, hd4, hrest4⟩ := trodAll_cons hrest3
  obtain ⟨rfl, rfl, rfl⟩ := trodAll_nil hrest4
  exact ⟨v, v', v'', v3, v4, d, d', d'', d3, d4, p, p', p'', p3, p4, by cases args; simp_all, rfl, by simp, hd, hd', hd'', hd3, hd4⟩
theorem trodAll_mk5 {t t' t'' t3 t4 : TypeId} {v v' v'' v3 v4 : Value} {d d' d'' d3 d4 : DataW H} {p p' p'' p3 p4 : List MemPlace} (h : DataW.Trod enc P w base spare held t v d p) (h' : DataW.Trod enc P w base spare held t' v' d' p')
    (h'' : DataW.Trod enc P w base spare held t'' v'' d'' p'') (h3 : DataW.Trod enc P w base spare held t3 v3 d3 p3) (h4 : DataW.Trod enc P w base spare held t4 v4 d4 p4) : DataW.TrodAll enc P w base spare held [t, t', t'', t3, t4] [v, v', v'', v3, v4] [d, d', d'', d3, d4] (p ++ (p' ++ (p'' ++ (p3 ++ p4)))) := ⟨p, p' ++ (p'' ++ (p3 ++ p4)), h, trodAll_mk4 h' h'' h3 h4, rfl⟩
end
end Go.Proofs.YtnnikeolgknfoaaGreat

set_option linter.unusedSimpArgs false
set_option linter.unusedVariables false
namespace Go.Proofs.YtnnikeolgknfoaaGreat
open Go.ChangeShapes Go.WideShapes Go.ChangeAt Go.RowKit Go.Deep Go.Joins

section
variable {H : Type} {enc : TypeId × Value → H} {w : World} {base : Nat} {spare : Nat → Bool} {held : Bool}

set_option maxRecDepth 100000 in
theorem open_bytes {fuel : Nat} {v : Value} {x : DataW H × List MemPlace} (h : DataW.trod enc Tryz.prog w base spare held fuel 92 [v] = some x) : ∃ A n c, v = .slice A n c ∧ ByIn w w.heap.size A n ∧ n ≤ maxLen := by
  rcases open_slice (e := 5) Tryz.underlying92 h with ⟨h0, _⟩ | ⟨a, len, cap, m, n, D, Pl, hcs, hb, hl, hm, hmm, hx, hi⟩
  · injection h0 with h0
    exact ⟨none, 0, 0, h0, fun k hk => absurd hk (by omega), Nat.zero_le _⟩
  · injection hcs with hcs
    have each : ∀ i, i < len → ∃ z, w.cell? (a.add i) = some (.int .u8 z) ∧ 0 ≤ z ∧ z ≤ 255 := fun k hk => by
      have him : k < m := by rw [hmm]; split <;> omega
      obtain ⟨cs', hc, ht'⟩ := hi k him
      rw [show Tryz.prog.cellsOf 5 = 1 by kernel_rfl, Nat.mul_one] at hc
      obtain ⟨_, hcl, hat⟩ := World.cells?_some hc
      obtain ⟨z, hz, hw⟩ := DataW.trod_int Tryz.underlying5 ht'
      have hcell := hat 0 (by omega)
      rw [hz] at hcell
      exact ⟨z, by simpa [Addr.add] using hcell, bounds_u8 hw.2⟩
    refine ⟨some a, len, cap, hcs, fun k hk => ?_, by omega⟩
    obtain ⟨z, hc0, hz⟩ := each k hk
    have hsp : a.spot = none := by
      obtain ⟨z0, h10, _⟩ := each 0 (by omega)
      simpa [Addr.add] using World.cell?_spot h10
    obtain ⟨b, o, sp⟩ := a
    simp only at hsp
    subst hsp
    have e : ∀ j, (⟨b, o, none⟩ : Addr).add j = ⟨b, o + j, none⟩ := fun j => Addr.add_lit _ _ _
    exact ⟨b, o, z, rfl, by have := World.block_lt_of_cell? w _ hc0; rw [e] at this; exact this, (congrArg w.cell? (e k)).symm.trans hc0, hz⟩
end
end Go.Proofs.YtnnikeolgknfoaaGreat

set_option linter.unusedSimpArgs false
set_option linter.unusedVariables false
namespace Go.Proofs.YtnnikeolgknfoaaGreat
open Go.ChangeShapes Go.WideShapes Go.ChangeAt Go.RowKit

set_option maxRecDepth 100000 in
set_option maxHeartbeats 1000000 in
theorem daysJ_lifted (os : Os) (started : os.Started) (H : Type) (enc : TypeId × Value → H) :
    ReturnsInHanded {} Tryz.checked os 4 .any (Rows.binDaysSpec.pre6 enc Tryz.prog Tryz.f4 Rows.binDaysRow.domain false) (Rows.binDaysSpec.post enc Tryz.prog Tryz.f4 false true false false) := by
  refine returnsInHanded_of_change (C := Tryz.checked) own_knob started (by kernel_rfl) Tryz.func4
    (ChangeSpec.witness6 (enc := enc) (C := Tryz.checked) false ⟨#[], #[.agg #[.slice none 0 0, .slice none 0 0, .slice none 0 0], .int .i64 0, .slice none 0 0, .int .i64 0, .int .i64 0], []⟩ 8 (by kernel_rfl) (by kernel_rfl) (by kernel_rfl) (by kernel_rfl)) ?_
  intro W base args ds gs before hval0 hW hcnd _
  have hval : ∀ (j : Nat) t v, Tryz.f4.params[j]? = some t → args[j]? = some v → Value.okWide Tryz.prog W .any base t v := hval0
  have hW' := hW
  obtain ⟨p, q, hA0, hV, rfl, hfz, hnd⟩ := hW
  have hA : DataW.TrodAll enc Tryz.prog W 0 (fun _ => true) true Tryz.f4.params.toList args.toList ds p := hA0
  rw [Tryz.params4] at hA hval
  obtain ⟨v0, v1, v2, v3, v4, d0, d1, d2, d3, d4, p0, p1, p2, p3, p4, rfl, rfl, rfl, h0, h1, h2, h3, h4⟩ := trodAll_five hA
  obtain ⟨rfl, rfl⟩ := trodVars_none hV
  obtain ⟨r0, bA0, dA0, vA0, bc0, dc0, vc0, rfl, hin0⟩ := open_brow (hval 0 26 v0 rfl rfl) h0
  obtain ⟨k1, rfl, rfl, rfl, w1⟩ := open_int Tryz.underlying3 (hval 1 3 v1 rfl rfl) h1
  obtain ⟨a2, n2, c2, rfl⟩ := okWide_slice Tryz.underlying31 (hval 2 31 v2 rfl rfl)
  have h2k := h2
  obtain ⟨f2, g2⟩ := h2
  obtain ⟨A, n, c, X2, hv, hl2, hc2⟩ := open_introwT (t := 31) (e := 3) Tryz.underlying31 Tryz.underlying3 cells_int (v := .slice a2 n2 c2) g2
  injection hv with hv1 hv2 hv3
  subst hv1 hv2 hv3
  obtain ⟨k3, rfl, rfl, rfl, w3⟩ := open_int Tryz.underlying3 (hval 3 3 v3 rfl rfl) h3
  obtain ⟨k4, rfl, rfl, rfl, w4⟩ := open_int Tryz.underlying3 (hval 4 3 v4 rfl rfl) h4
  clear hA0 hval0
  simp only [List.append_nil] at hW'
  have hlt0 : ∀ x ∈ p0, x.block < W.heap.size := fun x hx => hW'.lt x (by simp [hx])
  have hlt2 : ∀ x ∈ p2, x.block < W.heap.size := fun x hx => hW'.lt x (by simp [hx])
  refine (daysJ_any r0 k1 a2 n2 c2 X2 k3 k4 bA0 dA0 vA0 bc0 dc0 vc0 W hin0 hl2 hc2).mono fun e W' ⟨he, bel⟩ => ?_
  subst he
  exact ⟨_, rfl, _, _, _, [], _, [], hW', trodAll_mk1 (shut_bool Tryz.underlying4 true),
    trodAll_mk5 (Below.trod laid_out (by kernel_rfl) (of_decide_eq_true (by kernel_rfl)) h0 bel hlt0) (shut_int Tryz.underlying3 w1) (Below.trod laid_out (by kernel_rfl) (of_decide_eq_true (by kernel_rfl)) h2k bel hlt2) (shut_int Tryz.underlying3 w3) (shut_int Tryz.underlying3 w4), rfl, bel.frame _, fun h => by cases h⟩

theorem bin_days_holds : Rows.BinDaysSaid :=
  OpenClaim.holds_of_wide 4 Tryz.f4 rfl rfl rfl rfl rfl rfl rfl ⟨rfl, rfl, rfl, rfl, rfl⟩ rfl rfl rfl rfl rfl (by kernel_rfl) Tryz.func4 (by kernel_rfl)
    (of_decide_eq_true (by kernel_rfl)) (by unfold Func.isWrapper; first | (rw [if_pos (by decide +kernel)]; kernel_rfl) | (rw [if_neg (by decide +kernel)]; exact ⟨rfl, rfl⟩))
    (fun os started H enc _ => daysJ_lifted os started H enc)
#print axioms bin_days_holds
end Go.Proofs.YtnnikeolgknfoaaGreat
