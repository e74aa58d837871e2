/- BinClashes: the joined statement. -/
import Derived.Test.YtnnikeolgknfoaaGreatGa
import Derived.ProofKit
import Derived.Deep.Slices
import Derived.Deep.Fields
import Derived.Lib.SmallJoins
import Derived.Test.YtnnikeolgknfoaaGreatBb
import Derived.Test.YtnnikeolgknfoaaGreatEcm
import Derived.Test.YtnnikeolgknfoaaGreatD3
import Derived.Test.YtnnikeolgknfoaaGreatEcp
import Derived.Test.YtnnikeolgknfoaaGreatJa
import Derived.Test.YtnnikeolgknfoaaGreatRows
set_option linter.unusedSimpArgs false
set_option linter.unusedVariables false
namespace Go.Proofs.YtnnikeolgknfoaaGreat
open Go.ChangeShapes Go.WideShapes Go.ChangeAt Go.RowKit Go.Deep Go.Joins

theorem own_knob : ownKnob Tryz.prog.godebug = none := by kernel_rfl
theorem laid_out : laidOutB Tryz.prog = true := by kernel_rfl
end Go.Proofs.YtnnikeolgknfoaaGreat

set_option linter.unusedSimpArgs false
set_option linter.unusedVariables false
namespace Go.Proofs.YtnnikeolgknfoaaGreat
open Go.ChangeShapes Go.WideShapes Go.ChangeAt Go.RowKit Go.Deep Go.Joins

/-- the bool in a cell -/
def boolAt (w : World) (a : Addr) : Bool := match w.cell? a with | some (.bool z) => z | _ => false
theorem boolAt_eq {w : World} {a : Addr} {z : Bool} (h : w.cell? a = some (.bool z)) : w.cell? a = some (.bool (boolAt w a)) := by
  unfold boolAt; rw [h]
def NumCs (cs : List Value) (n : Nat) : Prop := cs.length = n ∧ ∀ j, j < n → ∃ z : Int, cs[j]? = some (.int .i64 z)
theorem part_get {cs l : List Value} {o n j : Nat} {v : Value} (h : (cs.drop o).take n = l) (hj : l[j]? = some v) : cs[o + j]? = some v := by
  rw [← h] at hj
  have hjn : j < n := by
    have := (List.getElem?_eq_some_iff.1 hj).1
    simp at this
    omega
  rw [List.getElem?_take_of_lt hjn, List.getElem?_drop] at hj
  exact hj

section
variable {H : Type} {enc : TypeId × Value → H} {w : World} {base : Nat} {spare : Nat → Bool} {held : Bool}

set_option maxRecDepth 100000 in
theorem num_int {t : TypeId} (ht : Tryz.prog.underlying t = some (.int .i64)) {fuel : Nat} {cs : List Value} {x : DataW H × List MemPlace} (h : DataW.trod enc Tryz.prog w base spare held fuel t cs = some x) : ∃ z : Int, cs = [.int .i64 z] := by
  obtain ⟨z, hz, _⟩ := DataW.trod_int ht h
  exact ⟨z, hz⟩
theorem kind_under : Tryz.prog.underlying 52 = some (.int .i64) := by kernel_rfl
theorem cells_int : Tryz.prog.cellsOf 3 = 1 := by kernel_rfl
theorem cells_sp : Tryz.prog.cellsOf 49 = 2 := by kernel_rfl
theorem cells_sps : Tryz.prog.cellsOf 117 = 6 := by kernel_rfl
theorem cells_bn : Tryz.prog.cellsOf 119 = 7 := by kernel_rfl
theorem cells_wg : Tryz.prog.cellsOf 101 = 4 := by kernel_rfl
theorem cells_kd : Tryz.prog.cellsOf 52 = 1 := by kernel_rfl
theorem spArrQ_under : Tryz.prog.underlying 117 = some (.array 3 49) := by kernel_rfl

set_option maxRecDepth 100000 in
theorem num_span {fuel : Nat} {cs : List Value} {x : DataW H × List MemPlace} (h : DataW.trod enc Tryz.prog w base spare held fuel 49 cs = some x) : NumCs cs 2 := by
  obtain ⟨y0, y1, n, -, hl, h0, h1⟩ := trod_struct2 Tryz.underlying49 h
  rw [cells_sp] at hl
  obtain ⟨z0, e0⟩ := num_int Tryz.underlying3 h0
  obtain ⟨z1, e1⟩ := num_int Tryz.underlying3 h1
  refine ⟨hl, fun j hj => ?_⟩
  have hj' : j = 0 ∨ j = 1 := by omega
  rcases hj' with rfl | rfl
  · exact ⟨z0, part_get (j := 0) e0 rfl⟩
  · exact ⟨z1, part_get (j := 0) e1 rfl⟩
set_option maxRecDepth 100000 in
theorem num_bin {fuel : Nat} {cs : List Value} {x : DataW H × List MemPlace} (h : DataW.trod enc Tryz.prog w base spare held fuel 119 cs = some x) : NumCs cs 7 := by
  obtain ⟨y0, y1, n, -, hl, h0, h1⟩ := trod_struct2 Tryz.underlying119 h
  rw [cells_bn] at hl
  obtain ⟨z6, e6⟩ := num_int Tryz.underlying3 h1
  obtain ⟨xs, m, -, -, hl2, hxl, ha⟩ := DataW.trod_array spArrQ_under h0
  refine ⟨hl, fun j hj => ?_⟩
  by_cases hj6 : j = 6
  · subst hj6
    exact ⟨z6, part_get (j := 0) e6 rfl⟩
  · have hi := ha (j / 2) (by omega)
    rw [cells_sp] at hi
    obtain ⟨y, hy⟩ : ∃ y, xs[j / 2]? = some y := ⟨xs[j / 2]'(by omega), List.getElem?_eq_getElem _⟩
    rw [hy] at hi
    obtain ⟨_, hs⟩ := num_span hi
    obtain ⟨z, hz⟩ := hs (j % 2) (by omega)
    have g1 := part_get rfl hz
    rw [show j / 2 * 2 + j % 2 = j by omega] at g1
    have g2 := part_get rfl g1
    exact ⟨z, by rw [Nat.zero_add] at g2; exact g2⟩
set_option maxRecDepth 100000 in
theorem num_wg {fuel : Nat} {cs : List Value} {x : DataW H × List MemPlace} (h : DataW.trod enc Tryz.prog w base spare held fuel 101 cs = some x) : NumCs cs 4 := by
  obtain ⟨y0, y1, y2, y3, n, -, hl, h0, h1, h2, h3⟩ := trod_struct4 Tryz.underlying101 h
  rw [cells_wg] at hl
  obtain ⟨z0, e0⟩ := num_int Tryz.underlying3 h0
  obtain ⟨z1, e1⟩ := num_int Tryz.underlying3 h1
  obtain ⟨z2, e2⟩ := num_int Tryz.underlying3 h2
  obtain ⟨z3, e3⟩ := num_int Tryz.underlying3 h3
  refine ⟨hl, fun j hj => ?_⟩
  have hj' : j = 0 ∨ j = 1 ∨ j = 2 ∨ j = 3 := by omega
  rcases hj' with rfl | rfl | rfl | rfl
  · exact ⟨z0, part_get (j := 0) e0 rfl⟩
  · exact ⟨z1, part_get (j := 0) e1 rfl⟩
  · exact ⟨z2, part_get (j := 0) e2 rfl⟩
  · exact ⟨z3, part_get (j := 0) e3 rfl⟩
theorem num_one {t : TypeId} (ht : Tryz.prog.underlying t = some (.int .i64)) {fuel : Nat} {cs : List Value} {x : DataW H × List MemPlace} (h : DataW.trod enc Tryz.prog w base spare held fuel t cs = some x) : NumCs cs 1 := by
  obtain ⟨z, rfl⟩ := num_int ht h
  exact ⟨rfl, fun j hj => ⟨z, by rw [show j = 0 by omega]; rfl⟩⟩

set_option maxRecDepth 100000 in
/-- a slice of elements of some cells -/
theorem open_cellsQ {t e : TypeId} {N : Nat} {Q : List Value → Prop} (ht : Tryz.prog.underlying t = some (.slice e)) (hC : Tryz.prog.cellsOf e = N) (hQ : ∀ (f : Nat) (cs : List Value) (x : DataW H × List MemPlace), DataW.trod enc Tryz.prog w base spare held f e cs = some x → Q cs)
    {fuel : Nat} {cs : List Value} {x : DataW H × List MemPlace} (h : DataW.trod enc Tryz.prog w base spare held fuel t cs = some x) :
    cs = [.slice none 0 0] ∨ ∃ (a : Addr) (len cap : Nat), cs = [.slice (some a) len cap] ∧ len ≤ cap ∧ ∀ i, i < len → ∃ cs', Q cs' ∧ ∀ j, j < N → w.cell? (a.add (i * N + j)) = cs'[j]? := by
  rcases open_slice ht h with ⟨h0, _⟩ | ⟨a, len, cap, m, n, D, Pl, hcs, hb, hl, hm, hmm, hx, hi⟩
  · exact .inl h0
  · refine .inr ⟨a, len, cap, hcs, hl, fun i hil => ?_⟩
    have him : i < m := by rw [hmm]; split <;> omega
    obtain ⟨cs', hc, ht'⟩ := hi i him
    rw [hC] at hc
    obtain ⟨_, hcl, hat⟩ := World.cells?_some hc
    refine ⟨cs', hQ _ _ _ ht', fun j hj => ?_⟩
    have := hat j hj
    rw [Go.Deep.add_add] at this
    exact this
theorem nums_at {a : Addr} {N i : Nat} (h : ∃ cs', NumCs cs' N ∧ ∀ j, j < N → w.cell? (a.add (i * N + j)) = cs'[j]?) : ∀ j, j < N → w.cell? (a.add (i * N + j)) = some (.int .i64 (numAt w (a.add (i * N + j)))) := fun j hj => by
  obtain ⟨cs', hQ, hc⟩ := h
  obtain ⟨z, hz⟩ := hQ.2 j hj
  exact numAt_eq (z := z) (by rw [hc j hj, hz])
theorem lit_add (b o j : Nat) : (⟨b, o, none⟩ : Addr).add j = ⟨b, o + j, none⟩ := Addr.add_lit _ _ _

set_option maxRecDepth 100000 in
theorem open_bnrow {fuel : Nat} {v : Value} {x : DataW H × List MemPlace} (h : DataW.trod enc Tryz.prog w base spare held fuel 22 [v] = some x) : ∃ A n c P, v = .slice A n c ∧ BnRow w w.heap.size A n P ∧ n ≤ c := by
  rcases open_cellsQ (Q := fun cs => NumCs cs 7) bns_under cells_bn (fun f cs x h => num_bin h) h with h0 | ⟨a, len, cap, hcs, hl, hc⟩
  · injection h0 with h0
    exact ⟨none, 0, 0, fun _ => ⟨fun _ => 0, fun _ => 0, 0⟩, h0, fun k hk => absurd hk (by omega), Nat.le_refl _⟩
  · injection hcs with hcs
    refine ⟨some a, len, cap, fun k => ⟨fun q => numAt w (a.add (k * 7 + 2 * q)), fun q => numAt w (a.add (k * 7 + (2 * q + 1))), numAt w (a.add (k * 7 + 6))⟩, hcs, fun k hk => ?_, hl⟩
    have hn := nums_at (hc k hk)
    have c0 := hn 0 (by decide)
    have c1 := hn 1 (by decide)
    have c2 := hn 2 (by decide)
    have c3 := hn 3 (by decide)
    have c4 := hn 4 (by decide)
    have c5 := hn 5 (by decide)
    have c6 := hn 6 (by decide)
    have hsp : a.spot = none := by
      have := nums_at (hc 0 (by omega)) 0 (by decide)
      simpa [Addr.add] using World.cell?_spot this
    obtain ⟨b, o, sp⟩ := a
    simp only at hsp
    subst hsp
    simp only [lit_add] at *
    exact ⟨b, o, rfl, World.block_lt_of_cell? w _ c0, c0, c1, c2, c3, c4, c5, c6⟩
set_option maxRecDepth 100000 in
theorem open_wgrow {fuel : Nat} {v : Value} {x : DataW H × List MemPlace} (h : DataW.trod enc Tryz.prog w base spare held fuel 24 [v] = some x) : ∃ A n c P, v = .slice A n c ∧ WgRow w w.heap.size A n P ∧ n ≤ c := by
  rcases open_cellsQ (Q := fun cs => NumCs cs 4) wgs_under cells_wg (fun f cs x h => num_wg h) h with h0 | ⟨a, len, cap, hcs, hl, hc⟩
  · injection h0 with h0
    exact ⟨none, 0, 0, fun _ => ⟨0, 0, 0, 0⟩, h0, fun k hk => absurd hk (by omega), Nat.le_refl _⟩
  · injection hcs with hcs
    refine ⟨some a, len, cap, fun k => ⟨numAt w (a.add (k * 4 + 0)), numAt w (a.add (k * 4 + 1)), numAt w (a.add (k * 4 + 2)), numAt w (a.add (k * 4 + 3))⟩, hcs, fun k hk => ?_, hl⟩
    have hn := nums_at (hc k hk)
    have c0 := hn 0 (by decide)
    have c1 := hn 1 (by decide)
    have c2 := hn 2 (by decide)
    have c3 := hn 3 (by decide)
    have hsp : a.spot = none := by
      have := nums_at (hc 0 (by omega)) 0 (by decide)
      simpa [Addr.add] using World.cell?_spot this
    obtain ⟨b, o, sp⟩ := a
    simp only at hsp
    subst hsp
    simp only [lit_add] at *
    exact ⟨b, o, rfl, World.block_lt_of_cell? w _ c0, c0, c1, c2, c3⟩
set_option maxRecDepth 100000 in
theorem open_introwT {t e : TypeId} (ht : Tryz.prog.underlying t = some (.slice e)) (he : Tryz.prog.underlying e = some (.int .i64)) (hC : Tryz.prog.cellsOf e = 1) {fuel : Nat} {v : Value} {x : DataW H × List MemPlace} (h : DataW.trod enc Tryz.prog w base spare held fuel t [v] = some x) : ∃ A n c X, v = .slice A n c ∧ IntRow w w.heap.size A n X ∧ n ≤ c := by
  rcases open_cellsQ (Q := fun cs => NumCs cs 1) ht hC (fun f cs x h => num_one he h) h with h0 | ⟨a, len, cap, hcs, hl, hc⟩
  · injection h0 with h0
    exact ⟨none, 0, 0, fun _ => 0, h0, fun k hk => absurd hk (by omega), Nat.le_refl _⟩
  · injection hcs with hcs
    refine ⟨some a, len, cap, fun k => numAt w (a.add (k * 1 + 0)), hcs, fun k hk => ?_, hl⟩
    have c0 := nums_at (hc k hk) 0 (by decide)
    have hsp : a.spot = none := by
      have := nums_at (hc 0 (by omega)) 0 (by decide)
      simpa [Addr.add] using World.cell?_spot this
    obtain ⟨b, o, sp⟩ := a
    simp only at hsp
    subst hsp
    simp only [lit_add, Nat.mul_one, Nat.add_zero] at *
    exact ⟨b, o, rfl, World.block_lt_of_cell? w _ c0, c0⟩
/-- a row as it is passed -/
def RowIn (w : World) (r : Rw) (bA : Option Addr) (bc : Nat) (dA : Option Addr) (dc : Nat) (vA : Option Addr) (vc : Nat) : Prop :=
  BnRow w w.heap.size bA r.n r.B ∧ IntRow w w.heap.size dA r.d r.D ∧ WgRow w w.heap.size vA r.m r.V ∧ r.n ≤ bc ∧ r.d ≤ dc ∧ r.m ≤ vc
set_option maxRecDepth 100000 in
/-- a row by value -/
theorem open_brow {r : Reach} {b0 : Nat} {v : Value} {d : DataW H} {p : List MemPlace} (hv : Value.okWide Tryz.prog w r b0 26 v) (h : DataW.Trod enc Tryz.prog w base spare held 26 v d p) :
    ∃ (r : Rw) (bA dA vA : Option Addr) (bc dc vc : Nat), v = rwV bA r.n bc dA r.d dc vA r.m vc ∧ RowIn w r bA bc dA dc vA vc := by
  obtain ⟨v0, v1, v2, y0, y1, y2, n, rfl, _, _, h0, h1, h2⟩ := open_agg3 Tryz.underlying26 (by kernel_rfl) (by kernel_rfl) hv h
  obtain ⟨bA, bn, bc, B, rfl, hb, hbc⟩ := open_bnrow h0
  obtain ⟨dA, dn, dc, D, rfl, hd, hdc⟩ := open_introwT (t := 23) (e := 52) (by kernel_rfl) kind_under cells_kd h1
  obtain ⟨vA, vn, vc, V, rfl, hw, hvc⟩ := open_wgrow h2
  exact ⟨⟨bn, B, dn, D, vn, V⟩, bA, dA, vA, bc, dc, vc, rfl, hb, hd, hw, hbc, hdc, hvc⟩
end
end Go.Proofs.YtnnikeolgknfoaaGreat

set_option linter.unusedSimpArgs false
set_option linter.unusedVariables false
namespace Go.Proofs.YtnnikeolgknfoaaGreat
open Go.RowKit Go.Shelf

theorem cell_set_same {w : World} {p : Addr} {u v : Value} (h : w.cell? p = some v) : (w.setCell p u).cell? p = some u := World.cell?_setCell_same' _ _ _ (by rw [h]; rfl)
theorem cell_set_is {w : World} {p : Addr} {u : Value} (h : (w.cell? p).isSome = true) : (w.setCell p u).cell? p = some u := World.cell?_setCell_same' _ _ _ h
theorem has_of {w : World} {a : Addr} {v : Value} (h : w.cell? a = some v) : (w.cell? a).isSome = true := by rw [h]; rfl
theorem has_set {w : World} {p a : Addr} {u : Value} (h : (w.cell? a).isSome = true) : ((w.setCell p u).cell? a).isSome = true := by
  by_cases e : p = a
  · subst e
    rw [World.cell?_setCell_same' _ _ _ h]; rfl
  · rw [World.cell?_setCell_other _ _ _ _ (by first | exact e | exact fun h => e h.symm)]; exact h
theorem has_alloc {w : World} {o : Obj} {a : Addr} (h : (w.cell? a).isSome = true) : ((w.alloc o).cell? a).isSome = true := by
  obtain ⟨v, hv⟩ := Option.isSome_iff_exists.1 h
  exact has_of (Ka o hv)
theorem has_new {w : World} {cs : Array Value} {t : TypeId} {n i : Nat} (hn : n = w.heap.size) (hi : i < cs.size) : ((w.alloc (.cells cs t)).cell? ⟨n, i, none⟩).isSome = true :=
  has_of (Kw hn (Array.getElem?_eq_getElem hi))
theorem cell_set_off {w : World} {b i j : Nat} {u v : Value} (hne : i ≠ j) (h : w.cell? ⟨b, i, none⟩ = some v) : (w.setCell ⟨b, j, none⟩ u).cell? ⟨b, i, none⟩ = some v := by
  rw [World.cell?_setCell_other _ _ _ _ (by intro e; injection e with _ e _; omega)]; exact h
theorem setCell_os (w : World) (a : Addr) (v : Value) : (w.setCell a v).os = w.os := rfl
theorem setCell_tape (w : World) (a : Addr) (v : Value) : (w.setCell a v).tape = w.tape := rfl
theorem setCell_output (w : World) (a : Addr) (v : Value) : (w.setCell a v).output = w.output := rfl
theorem alloc_os (w : World) (o : Obj) : (w.alloc o).os = w.os := rfl
theorem alloc_tape (w : World) (o : Obj) : (w.alloc o).tape = w.tape := rfl
theorem alloc_output (w : World) (o : Obj) : (w.alloc o).output = w.output := rfl
theorem setCell_size (w : World) (a : Addr) (v : Value) : (w.setCell a v).heap.size = w.heap.size := by simp [World.setCell]
theorem sps_post {n : Nat} {X : Nat → Sp} {er : Int} {W W' : World} {e : Ending} (h : SpsPost n X er W e W') : ∃ (A : Option Addr) (c m : Nat), e = .returned (.tuple #[.slice A m c, .int .i64 er]) ∧ SpRow W' W'.heap.size A m X ∧ m = (if er = 0 then n else 0) ∧ Below W.heap.size W W' := by
  by_cases he : er = 0
  · obtain ⟨A, c, e0, hr, _, hb⟩ := sps_of h he
    exact ⟨A, c, n, by rw [e0, he], hr, by rw [if_pos he], hb⟩
  · rcases h with ⟨h0, _⟩ | ⟨_, e0, hb⟩
    · exact absurd h0 he
    · exact ⟨none, 0, 0, e0, fun k hk => absurd hk (by omega), by rw [if_neg he], hb⟩
structure Rd where
  bA : Option Addr
  dA : Option Addr
  vA : Option Addr
  bc : Nat
  dc : Nat
  vc : Nat
def Rd.v (d : Rd) (r : Rw) : Value := rwV d.bA r.n d.bc d.dA r.d d.dc d.vA r.m d.vc
def Rd.at (d : Rd) (w : World) (b : Nat) (r : Rw) : Prop := RwAt w b r d.bA d.bc d.dA d.dc d.vA d.vc
def Rd.row (d : Rd) (w : World) (r : Rw) : Prop := RwRow w w.heap.size r d.bA d.bc d.dA d.dc d.vA d.vc
structure OwnRw (w : World) (lo : Nat) (r : Rw) (d : Rd) : Prop where
  b : OwnBn w lo d.bA r.n r.B
  q : OwnInt w lo d.dA r.d r.D
  v : OwnWg w lo d.vA r.m r.V
  c : r.n ≤ d.bc ∧ r.d ≤ d.dc ∧ r.m ≤ d.vc
theorem OwnRw.keep {w w' : World} {lo : Nat} {r : Rw} {d : Rd} (h : OwnRw w lo r d) (hk : ∀ b, lo ≤ b → b < w.heap.size → w'.heap[b]? = w.heap[b]?) : OwnRw w' lo r d := ⟨h.b.keep hk, h.q.keep hk, h.v.keep hk, h.c⟩
theorem OwnRw.row {w : World} {lo : Nat} {r : Rw} {d : Rd} (h : OwnRw w lo r d) (h1 : r.n ≤ 1000) (h2 : r.d ≤ 1000) (h3 : r.m ≤ 1000) : d.row w r := ⟨Nat.le_refl _, h.b.row, h.q.row, h.v.row, h1, h2, h3, h.c.1, h.c.2.1, h.c.2.2⟩
theorem OwnPost.own {r : Rw} {W W' : World} {e : Ending} (h : OwnPost r W e W') : ∃ (bA dA vA : Option Addr) (bc dc vc : Nat), e = .returned (rwV bA r.n bc dA r.d dc vA r.m vc) ∧ OwnRw W' W.heap.size r ⟨bA, dA, vA, bc, dc, vc⟩ ∧ Below W.heap.size W W' := by
  obtain ⟨bA, dA, vA, bc, dc, vc, h1, h2, h3, h4, h5, h6⟩ := h
  obtain ⟨A, c, e1, ho, hc⟩ := OwnWg.of h4
  injection e1 with e1 _ e3
  subst e1 e3
  exact ⟨bA, dA, vA, bc, dc, vc, h1, ⟨h2, h3, ho, h5⟩, h6⟩
theorem TheirPost.own {r : Rw} {W W' : World} {e : Ending} (h : TheirPost r W e W') : ∃ (bA dA vA : Option Addr) (bc dc vc : Nat), e = .returned (rwV bA r.n bc dA r.d dc vA r.m vc) ∧ OwnRw W' W.heap.size r ⟨bA, dA, vA, bc, dc, vc⟩ ∧ Below W.heap.size W W' := by
  obtain ⟨bA, dA, vA, bc, dc, vc, h1, h2, h3, h4, h5, h6⟩ := h
  exact ⟨bA, dA, vA, bc, dc, vc, h1, ⟨h2, h3, h4, h5⟩, h6⟩
/-- the row, its copy, and that of the reference, in their boxes -/
structure LawB (W w : World) (r : Rw) (b1 b2 : Nat) (d d1 d2 : Rd) : Prop where
  s0 : d.at w W.heap.size r
  s1 : d1.at w b1 r
  s2 : d2.at w b2 r
  r0 : d.row w r
  r1 : d1.row w r
  r2 : d2.row w r
  l : Below W.heap.size W w
theorem LawB.later {W w w' : World} {r : Rw} {b1 b2 : Nat} {d d1 d2 : Rd} (h : LawB W w r b1 b2 d d1 d2) (hb : Below w.heap.size w w') : LawB W w' r b1 b2 d d1 d2 :=
  ⟨RwAt.later h.s0 hb, RwAt.later h.s1 hb, RwAt.later h.s2 hb, RwRow.onW h.r0 hb, RwRow.onW h.r1 hb, RwRow.onW h.r2 hb, h.l.trans (hb.mono h.l.size)⟩
theorem lawb_close {r : Rw} {d d1 d2 : Rd} {lop lot b1 b2 : Nat} {W w1 wp wm wt wX : World} (H0 : d.row W r) (HB1 : Below W.heap.size W w1) (h0 : W.heap.size < w1.heap.size) (hA : d.at w1 W.heap.size r)
    (hP : Below w1.heap.size w1 wp) (hM : Below wp.heap.size wp wm) (hT : Below wm.heap.size wm wt) (hop : OwnRw wp lop r d1) (htp : OwnRw wt lot r d2)
    (hos : wX.os = wt.os) (htape : wX.tape = wt.tape) (hout : wX.output = wt.output) (hsz : wt.heap.size ≤ wX.heap.size)
    (hF : ∀ i, i < wt.heap.size → i ≠ b1 → i ≠ b2 → wX.heap[i]? = wt.heap[i]?)
    (k1 : w1.heap.size ≤ b1 ∧ (b1 < lop ∨ wp.heap.size ≤ b1) ∧ (b1 < lot ∨ wt.heap.size ≤ b1)) (k2 : w1.heap.size ≤ b2 ∧ (b2 < lop ∨ wp.heap.size ≤ b2) ∧ (b2 < lot ∨ wt.heap.size ≤ b2))
    (s1 : d1.at wX b1 r) (s2 : d2.at wX b2 r) :
    LawB W wX r b1 b2 d d1 d2 ∧ ∀ i, i < wm.heap.size → i ≠ b1 → i ≠ b2 → wX.heap[i]? = wm.heap[i]? := by
  have z1 := HB1.size
  have z2 := hP.size
  have z3 := hM.size
  have z4 := hT.size
  have eT : ∀ i, i < wm.heap.size → i ≠ b1 → i ≠ b2 → wX.heap[i]? = wm.heap[i]? := fun i hi h1 h2 => (hF i (by omega) h1 h2).trans (hT.block i hi)
  have eM : ∀ i, i < wp.heap.size → i ≠ b1 → i ≠ b2 → wX.heap[i]? = wp.heap[i]? := fun i hi h1 h2 => (eT i (by omega) h1 h2).trans (hM.block i hi)
  have eP : ∀ i, i < w1.heap.size → wX.heap[i]? = w1.heap[i]? := fun i hi => (eM i (by omega) (by omega) (by omega)).trans (hP.block i hi)
  have BX : Below W.heap.size W wX := HB1.trans ⟨hos.trans (hT.os.trans (hM.os.trans hP.os)), htape.trans (hT.tape.trans (hM.tape.trans hP.tape)), hout.trans (hT.output.trans (hM.output.trans hP.output)), by omega, fun i hi => eP i (by omega)⟩
  exact ⟨⟨RwAt.same hA (eP _ h0), s1, s2, RwRow.onW H0 BX,
    (hop.keep (fun b hl hb => eM b hb (by omega) (by omega))).row H0.n1 H0.d1 H0.m1,
    (htp.keep (fun b hl hb => hF b hb (by omega) (by omega))).row H0.n1 H0.d1 H0.m1, BX⟩, eT⟩
theorem lawb_close3 {r : Rw} {d d1 d2 : Rd} {lop lom lot b1 b2 : Nat} {W w1 wp wm wt wX : World} {cA mA : Option Addr} {n : Nat} {X : Nat → Int} (H0 : d.row W r) (HB1 : Below W.heap.size W w1) (h0 : W.heap.size < w1.heap.size) (hA : d.at w1 W.heap.size r)
    (hP : Below w1.heap.size w1 wp) (hM : Below wp.heap.size wp wm) (hT : Below wm.heap.size wm wt) (hop : OwnRw wp lop r d1) (htp : OwnRw wt lot r d2) (hc : IntRow W W.heap.size cA n X) (hom : OwnInt wm lom mA n X)
    (hos : wX.os = wt.os) (htape : wX.tape = wt.tape) (hout : wX.output = wt.output) (hsz : wt.heap.size ≤ wX.heap.size)
    (hF : ∀ i, i < wt.heap.size → i ≠ b1 → i ≠ b2 → wX.heap[i]? = wt.heap[i]?)
    (k1 : w1.heap.size ≤ b1 ∧ (b1 < lop ∨ wp.heap.size ≤ b1) ∧ (b1 < lot ∨ wt.heap.size ≤ b1)) (k2 : w1.heap.size ≤ b2 ∧ (b2 < lop ∨ wp.heap.size ≤ b2) ∧ (b2 < lot ∨ wt.heap.size ≤ b2)) (k3 : (b1 < lom ∨ wm.heap.size ≤ b1) ∧ (b2 < lom ∨ wm.heap.size ≤ b2))
    (s1 : d1.at wX b1 r) (s2 : d2.at wX b2 r) :
    Hid (LawB W wX r b1 b2 d d1 d2) ∧ Hid (IntRow wX wX.heap.size cA n X) ∧ Hid (IntRow wX wX.heap.size mA n X) := by
  obtain ⟨h1, h2⟩ := lawb_close H0 HB1 h0 hA hP hM hT hop htp hos htape hout hsz hF k1 k2 s1 s2
  exact ⟨Lib.hid h1, Lib.hid ((hc.below h1.l).mono h1.l.size), Lib.hid (hom.keep (fun b hl hb => h2 b hb (by omega) (by omega))).row⟩
theorem RowIn.row {w : World} {r : Rw} {bA : Option Addr} {bc : Nat} {dA : Option Addr} {dc : Nat} {vA : Option Addr} {vc : Nat} (h : RowIn w r bA bc dA dc vA vc) (hl : r.longB = false) : RwRow w w.heap.size r bA bc dA dc vA vc := by
  unfold Rw.longB at hl
  simp only [Bool.or_eq_false_iff, decide_eq_false_iff_not] at hl
  obtain ⟨h1, h2, h3, h4, h5, h6⟩ := h
  exact ⟨Nat.le_refl _, h1, h2, h3, by omega, by omega, by omega, h4, h5, h6⟩
end Go.Proofs.YtnnikeolgknfoaaGreat

set_option linter.unusedSimpArgs false
set_option linter.unusedVariables false
namespace Go.Proofs.YtnnikeolgknfoaaGreat
open Go.RowKit Go.Shelf

theorem nat_post {l : List Nat} {er : Int} {W W' : World} {e : Ending} (h : NatPost l er W e W') : ∃ (A : Option Addr) (c m : Nat), e = .returned (.tuple #[.slice A m c, .int .i64 er]) ∧ IntRow W' W'.heap.size A m (numOf l) ∧ m = (if er = 0 then l.length else 0) ∧ Below W.heap.size W W' := by
  rcases h with ⟨h0, v, e0, ho, hb⟩ | ⟨h0, e0, hb⟩
  · obtain ⟨A, c, rfl, hr, _⟩ := natOwn ho
    exact ⟨A, c, l.length, by rw [e0, h0], hr, by rw [if_pos h0], hb⟩
  · exact ⟨none, 0, 0, e0, fun k hk => absurd hk (by omega), by rw [if_neg h0], hb⟩

theorem clashL_bd (r : Rw) (h : r.m ≤ 1000) : r.clashL.length ≤ 1000 := by
  have h1 := r.clN_len r.m
  unfold Rw.clashL
  omega
theorem fewL_bd (r : Rw) (h : r.m ≤ 1000) : r.fewL.length ≤ 1000 := by
  have h1 := Rw.fwN_len r (2 ^ r.m)
  unfold Rw.fewL
  omega
set_option maxRecDepth 100000 in
set_option maxHeartbeats 0 in
theorem clashes_law (r : Rw) (bA dA vA : Option Addr) (bc dc vc : Nat) (W : World) (hrow : RwRow W W.heap.size r bA bc dA dc vA vc) :
    Calls Tryz.prog 3 #[rwV bA r.n bc dA r.d dc vA r.m vc] W fun e W' => e = .returned (.bool true) ∧ Below W.heap.size W W' := by
  have H0 := Lib.hid hrow
  clear hrow
  go_enter Tryz.func3, Tryz.ntmps3
  go_wp2_with fail
  refine (long_any r bA dA vA bc dc vc _).mono ?_
  rintro e w1 ⟨rfl, hb1⟩
  have HB1 := Lib.hid (show Below W.heap.size W w1 from (by repeat (first | (with_reducible first | exact Below.refl _ _ | refine Below.drew ?_ | refine below_drewN ?_ _) | ((with_reducible first | refine Lc ?_ ?_ _ | refine Ls ?_ ?_ _ | refine Lv (by assumption) ?_ ?_); · first | exact Nat.le_refl _ | omega | (simp; done) | (simp; omega) | (simp at *; omega)))))
  have hs1 : W.heap.size < w1.heap.size := by have := hb1.size; simp only [World.size_alloc, World.size_drew] at this; omega
  have a0 : w1.cell? ⟨W.heap.size, 0, none⟩ = some (.slice bA r.n bc) := Kb hb1 (by (repeat' refine And.intro ?_ ?_) <;> (repeat (first | with_reducible assumption | (simp; done) | (with_reducible first | refine Kd ?_ | refine Kn ?_ | refine Kb (by assumption) ?_) | ((with_reducible first | refine Kw ?_ ?_ | refine Fw ?_) <;> first | with_reducible rfl | (simp; done)) | (with_reducible first | refine Ka _ ?_ | refine Ks _ (by first | exact Nat.le_refl _ | omega | (simp; done) | (simp; omega)) ?_ | refine Fd ?_ | refine Fn ?_ | refine Fb (by assumption) (by first | exact Nat.le_refl _ | omega | (simp; done) | (simp; omega)) ?_ | refine Fa _ (by first | exact Nat.le_refl _ | omega | (simp; done) | (simp; omega)) ?_ | refine Fs _ ?_))))
  have a1 : w1.cell? ⟨W.heap.size, 1, none⟩ = some (.slice dA r.d dc) := Kb hb1 (by (repeat' refine And.intro ?_ ?_) <;> (repeat (first | with_reducible assumption | (simp; done) | (with_reducible first | refine Kd ?_ | refine Kn ?_ | refine Kb (by assumption) ?_) | ((with_reducible first | refine Kw ?_ ?_ | refine Fw ?_) <;> first | with_reducible rfl | (simp; done)) | (with_reducible first | refine Ka _ ?_ | refine Ks _ (by first | exact Nat.le_refl _ | omega | (simp; done) | (simp; omega)) ?_ | refine Fd ?_ | refine Fn ?_ | refine Fb (by assumption) (by first | exact Nat.le_refl _ | omega | (simp; done) | (simp; omega)) ?_ | refine Fa _ (by first | exact Nat.le_refl _ | omega | (simp; done) | (simp; omega)) ?_ | refine Fs _ ?_))))
  have a2 : w1.cell? ⟨W.heap.size, 2, none⟩ = some (.slice vA r.m vc) := Kb hb1 (by (repeat' refine And.intro ?_ ?_) <;> (repeat (first | with_reducible assumption | (simp; done) | (with_reducible first | refine Kd ?_ | refine Kn ?_ | refine Kb (by assumption) ?_) | ((with_reducible first | refine Kw ?_ ?_ | refine Fw ?_) <;> first | with_reducible rfl | (simp; done)) | (with_reducible first | refine Ka _ ?_ | refine Ks _ (by first | exact Nat.le_refl _ | omega | (simp; done) | (simp; omega)) ?_ | refine Fd ?_ | refine Fn ?_ | refine Fb (by assumption) (by first | exact Nat.le_refl _ | omega | (simp; done) | (simp; omega)) ?_ | refine Fa _ (by first | exact Nat.le_refl _ | omega | (simp; done) | (simp; omega)) ?_ | refine Fs _ ?_))))
  have HA := Lib.hid (show RwAt w1 W.heap.size r bA bc dA dc vA vc from ⟨a0, a1, a2⟩)
  clear hb1
  cases hlong : r.longB with
  | true =>
    go_wp2_with fail
    refine (awake_any _).mono ?_
    rintro e w2 ⟨rfl, hb2⟩
    have HB2 := Lib.hid (HB1.out.trans (hb2.mono (by omega)))
    clear hb2
    go_wp2_with fail
    go_ret
    exact ⟨rfl, HB2.out⟩
  | false =>
    clear hlong
    go_upto_region 3 with fail
    go_cut [3, 4] (fun x y wx => ∃ (b1 b2 : Nat) (d1 d2 : Rd), x = .pointer (some ⟨b1, 0, none⟩) ∧ y = .pointer (some ⟨b2, 0, none⟩) ∧ Hid (LawB W wx r b1 b2 ⟨bA, dA, vA, bc, dc, vc⟩ d1 d2))
    case first =>
      go_region_held3 (fun w' => w'.cell? ⟨W.heap.size, 0, none⟩ = some (.slice bA r.n bc) ∧ w'.cell? ⟨W.heap.size, 1, none⟩ = some (.slice dA r.d dc) ∧ w'.cell? ⟨W.heap.size, 2, none⟩ = some (.slice vA r.m vc)) ((go_split_ands; (repeat' refine And.intro ?_ ?_) <;> (repeat (first | with_reducible assumption | (simp; done) | (with_reducible first | refine Kd ?_ | refine Kn ?_ | refine Kb (by assumption) ?_) | ((with_reducible first | refine Kw ?_ ?_ | refine Fw ?_) <;> first | with_reducible rfl | (simp; done)) | (with_reducible first | refine Ka _ ?_ | refine Ks _ (by first | exact Nat.le_refl _ | omega | (simp; done) | (simp; omega)) ?_ | refine Fd ?_ | refine Fn ?_ | refine Fb (by assumption) (by first | exact Nat.le_refl _ | omega | (simp; done) | (simp; omega)) ?_ | refine Fa _ (by first | exact Nat.le_refl _ | omega | (simp; done) | (simp; omega)) ?_ | refine Fs _ ?_))))) (first | (go_at_call 13; refine (own_any r bA dA vA bc dc vc _ (H0.out.onW (show Below W.heap.size W _ from HB1.out.trans ((show Below w1.heap.size w1 _ from (by repeat (first | (with_reducible first | exact Below.refl _ _ | refine Below.drew ?_ | refine below_drewN ?_ _) | ((with_reducible first | refine Lc ?_ ?_ _ | refine Ls ?_ ?_ _ | refine Lv (by assumption) ?_ ?_); · first | exact Nat.le_refl _ | omega | (simp; done) | (simp; omega) | (simp at *; omega))))).mono (by omega))))).mono ?_; intro e wp hp; obtain ⟨bA1, dA1, vA1, bc1, dc1, vc1, rfl, hop, hbp⟩ := OwnPost.own hp; clear hp; have hhP := Lib.hid (show Below w1.heap.size w1 wp from (by repeat (first | (with_reducible first | exact Below.refl _ _ | assumption | refine Below.drew ?_) | ((with_reducible first | refine Lc ?_ ?_ _ | refine Ls ?_ ?_ _ | refine Lv (by assumption) ?_ ?_); · first | exact Nat.le_refl _ | omega | (dsimp only; omega) | (simp only [World.size_alloc, World.size_drew, World.heap_drewN]; omega) | (simp; omega))))); have hzp := hbp.size; (try simp only [World.size_drew, World.heap_drewN, World.size_alloc] at hzp);  (try (refine lay_in (A := ((wp.cell? ⟨w1.heap.size, 0, none⟩ = some (.slice none 0 0) ∧ wp.cell? ⟨w1.heap.size, 1, none⟩ = some (.slice none 0 0) ∧ wp.cell? ⟨w1.heap.size, 2, none⟩ = some (.slice none 0 0)) ∧ wp.frozen? ⟨w1.heap.size, 0, none⟩ = false ∧ wp.frozen? ⟨w1.heap.size, 1, none⟩ = false ∧ wp.frozen? ⟨w1.heap.size, 2, none⟩ = false)) ?_ ?_; (· ((go_split_ands; (repeat' refine And.intro ?_ ?_) <;> (repeat (first | with_reducible assumption | (simp; done) | (with_reducible first | refine Kd ?_ | refine Kn ?_ | refine Kb (by assumption) ?_) | ((with_reducible first | refine Kw ?_ ?_ | refine Fw ?_) <;> first | with_reducible rfl | (simp; done)) | (with_reducible first | refine Ka _ ?_ | refine Ks _ (by first | exact Nat.le_refl _ | omega | (simp; done) | (simp; omega)) ?_ | refine Fd ?_ | refine Fn ?_ | refine Fb (by assumption) (by first | exact Nat.le_refl _ | omega | (simp; done) | (simp; omega)) ?_ | refine Fa _ (by first | exact Nat.le_refl _ | omega | (simp; done) | (simp; omega)) ?_ | refine Fs _ ?_)))))); rintro ⟨⟨_, _, _⟩, _, _, _⟩)); (try (refine lay_in (A := ((wp.cell? ⟨w1.heap.size + 1, 0, none⟩ = some (.slice none 0 0) ∧ wp.cell? ⟨w1.heap.size + 1, 1, none⟩ = some (.slice none 0 0) ∧ wp.cell? ⟨w1.heap.size + 1, 2, none⟩ = some (.slice none 0 0)) ∧ wp.frozen? ⟨w1.heap.size + 1, 0, none⟩ = false ∧ wp.frozen? ⟨w1.heap.size + 1, 1, none⟩ = false ∧ wp.frozen? ⟨w1.heap.size + 1, 2, none⟩ = false)) ?_ ?_; (· ((go_split_ands; (repeat' refine And.intro ?_ ?_) <;> (repeat (first | with_reducible assumption | (simp; done) | (with_reducible first | refine Kd ?_ | refine Kn ?_ | refine Kb (by assumption) ?_) | ((with_reducible first | refine Kw ?_ ?_ | refine Fw ?_) <;> first | with_reducible rfl | (simp; done)) | (with_reducible first | refine Ka _ ?_ | refine Ks _ (by first | exact Nat.le_refl _ | omega | (simp; done) | (simp; omega)) ?_ | refine Fd ?_ | refine Fn ?_ | refine Fb (by assumption) (by first | exact Nat.le_refl _ | omega | (simp; done) | (simp; omega)) ?_ | refine Fa _ (by first | exact Nat.le_refl _ | omega | (simp; done) | (simp; omega)) ?_ | refine Fs _ ?_)))))); rintro ⟨⟨_, _, _⟩, _, _, _⟩))) | (go_at_call 14; refine (theirs_any r bA dA vA bc dc vc _ (H0.out.onW (show Below W.heap.size W _ from HB1.out.trans ((show Below w1.heap.size w1 _ from (by repeat (first | (with_reducible first | exact Below.refl _ _ | refine Below.drew ?_ | refine below_drewN ?_ _) | ((with_reducible first | refine Lc ?_ ?_ _ | refine Ls ?_ ?_ _ | refine Lv (by assumption) ?_ ?_); · first | exact Nat.le_refl _ | omega | (simp; done) | (simp; omega) | (simp at *; omega))))).mono (by omega))))).mono ?_; intro e wt hp; obtain ⟨bA2, dA2, vA2, bc2, dc2, vc2, rfl, htp, hbt⟩ := TheirPost.own hp; clear hp; have hhT := Lib.hid (show Below wp.heap.size wp wt from (by repeat (first | (with_reducible first | exact Below.refl _ _ | assumption | refine Below.drew ?_) | ((with_reducible first | refine Lc ?_ ?_ _ | refine Ls ?_ ?_ _ | refine Lv (by assumption) ?_ ?_); · first | exact Nat.le_refl _ | omega | (dsimp only; omega) | (simp only [World.size_alloc, World.size_drew, World.heap_drewN]; omega) | (simp; omega))))); have hzt := hbt.size; (try simp only [World.size_drew, World.heap_drewN, World.size_alloc] at hzt);  (try (refine lay_in (A := ((wt.cell? ⟨w1.heap.size, 0, none⟩ = some (.slice none 0 0) ∧ wt.cell? ⟨w1.heap.size, 1, none⟩ = some (.slice none 0 0) ∧ wt.cell? ⟨w1.heap.size, 2, none⟩ = some (.slice none 0 0)) ∧ wt.frozen? ⟨w1.heap.size, 0, none⟩ = false ∧ wt.frozen? ⟨w1.heap.size, 1, none⟩ = false ∧ wt.frozen? ⟨w1.heap.size, 2, none⟩ = false)) ?_ ?_; (· ((go_split_ands; (repeat' refine And.intro ?_ ?_) <;> (repeat (first | with_reducible assumption | (simp; done) | (with_reducible first | refine Kd ?_ | refine Kn ?_ | refine Kb (by assumption) ?_) | ((with_reducible first | refine Kw ?_ ?_ | refine Fw ?_) <;> first | with_reducible rfl | (simp; done)) | (with_reducible first | refine Ka _ ?_ | refine Ks _ (by first | exact Nat.le_refl _ | omega | (simp; done) | (simp; omega)) ?_ | refine Fd ?_ | refine Fn ?_ | refine Fb (by assumption) (by first | exact Nat.le_refl _ | omega | (simp; done) | (simp; omega)) ?_ | refine Fa _ (by first | exact Nat.le_refl _ | omega | (simp; done) | (simp; omega)) ?_ | refine Fs _ ?_)))))); rintro ⟨⟨_, _, _⟩, _, _, _⟩)); (try (refine lay_in (A := ((wt.cell? ⟨w1.heap.size + 1, 0, none⟩ = some (.slice none 0 0) ∧ wt.cell? ⟨w1.heap.size + 1, 1, none⟩ = some (.slice none 0 0) ∧ wt.cell? ⟨w1.heap.size + 1, 2, none⟩ = some (.slice none 0 0)) ∧ wt.frozen? ⟨w1.heap.size + 1, 0, none⟩ = false ∧ wt.frozen? ⟨w1.heap.size + 1, 1, none⟩ = false ∧ wt.frozen? ⟨w1.heap.size + 1, 2, none⟩ = false)) ?_ ?_; (· ((go_split_ands; (repeat' refine And.intro ?_ ?_) <;> (repeat (first | with_reducible assumption | (simp; done) | (with_reducible first | refine Kd ?_ | refine Kn ?_ | refine Kb (by assumption) ?_) | ((with_reducible first | refine Kw ?_ ?_ | refine Fw ?_) <;> first | with_reducible rfl | (simp; done)) | (with_reducible first | refine Ka _ ?_ | refine Ks _ (by first | exact Nat.le_refl _ | omega | (simp; done) | (simp; omega)) ?_ | refine Fd ?_ | refine Fn ?_ | refine Fb (by assumption) (by first | exact Nat.le_refl _ | omega | (simp; done) | (simp; omega)) ?_ | refine Fa _ (by first | exact Nat.le_refl _ | omega | (simp; done) | (simp; omega)) ?_ | refine Fs _ ?_)))))); rintro ⟨⟨_, _, _⟩, _, _, _⟩)); (try (refine lay_in (A := ((wt.cell? ⟨wp.heap.size, 0, none⟩ = some (.slice none 0 0) ∧ wt.cell? ⟨wp.heap.size, 1, none⟩ = some (.slice none 0 0) ∧ wt.cell? ⟨wp.heap.size, 2, none⟩ = some (.slice none 0 0)) ∧ wt.frozen? ⟨wp.heap.size, 0, none⟩ = false ∧ wt.frozen? ⟨wp.heap.size, 1, none⟩ = false ∧ wt.frozen? ⟨wp.heap.size, 2, none⟩ = false)) ?_ ?_; (· ((go_split_ands; (repeat' refine And.intro ?_ ?_) <;> (repeat (first | with_reducible assumption | (simp; done) | (with_reducible first | refine Kd ?_ | refine Kn ?_ | refine Kb (by assumption) ?_) | ((with_reducible first | refine Kw ?_ ?_ | refine Fw ?_) <;> first | with_reducible rfl | (simp; done)) | (with_reducible first | refine Ka _ ?_ | refine Ks _ (by first | exact Nat.le_refl _ | omega | (simp; done) | (simp; omega)) ?_ | refine Fd ?_ | refine Fn ?_ | refine Fb (by assumption) (by first | exact Nat.le_refl _ | omega | (simp; done) | (simp; omega)) ?_ | refine Fa _ (by first | exact Nat.le_refl _ | omega | (simp; done) | (simp; omega)) ?_ | refine Fs _ ?_)))))); rintro ⟨⟨_, _, _⟩, _, _, _⟩)); (try (refine lay_in (A := ((wt.cell? ⟨wp.heap.size + 1, 0, none⟩ = some (.slice none 0 0) ∧ wt.cell? ⟨wp.heap.size + 1, 1, none⟩ = some (.slice none 0 0) ∧ wt.cell? ⟨wp.heap.size + 1, 2, none⟩ = some (.slice none 0 0)) ∧ wt.frozen? ⟨wp.heap.size + 1, 0, none⟩ = false ∧ wt.frozen? ⟨wp.heap.size + 1, 1, none⟩ = false ∧ wt.frozen? ⟨wp.heap.size + 1, 2, none⟩ = false)) ?_ ?_; (· ((go_split_ands; (repeat' refine And.intro ?_ ?_) <;> (repeat (first | with_reducible assumption | (simp; done) | (with_reducible first | refine Kd ?_ | refine Kn ?_ | refine Kb (by assumption) ?_) | ((with_reducible first | refine Kw ?_ ?_ | refine Fw ?_) <;> first | with_reducible rfl | (simp; done)) | (with_reducible first | refine Ka _ ?_ | refine Ks _ (by first | exact Nat.le_refl _ | omega | (simp; done) | (simp; omega)) ?_ | refine Fd ?_ | refine Fn ?_ | refine Fb (by assumption) (by first | exact Nat.le_refl _ | omega | (simp; done) | (simp; omega)) ?_ | refine Fa _ (by first | exact Nat.le_refl _ | omega | (simp; done) | (simp; omega)) ?_ | refine Fs _ ?_)))))); rintro ⟨⟨_, _, _⟩, _, _, _⟩))) | fail)
      all_goals
        go_wp2_with fail
        go_meet
        refine ⟨_, _, ⟨bA1, dA1, vA1, bc1, dc1, vc1⟩, ⟨bA2, dA2, vA2, bc2, dc2, vc2⟩, rfl, rfl, Lib.hid (lawb_close (d := ⟨bA, dA, vA, bc, dc, vc⟩) (d1 := ⟨bA1, dA1, vA1, bc1, dc1, vc1⟩) (d2 := ⟨bA2, dA2, vA2, bc2, dc2, vc2⟩) H0.out HB1.out hs1 HA.out hhP.out (Below.refl _ _) hhT.out hop htp ?os ?tp ?ou ?z ?f ?k1 ?k2 ?s1 ?s2).1⟩
        case os => simp only [setCell_os, alloc_os]
        case tp => simp only [setCell_tape, alloc_tape]
        case ou => simp only [setCell_output, alloc_output]
        case z => (try simp only [setCell_size, World.size_alloc]) <;> omega
        case f => intro i hi h1 h2; repeat (first | (with_reducible rfl) | ((with_reducible refine Eq.trans (set_heap _ ?_) ?_); (· first | exact h1 | exact h2 | (dsimp only; omega))) | ((with_reducible refine Eq.trans (Below.heap_alloc _ _ _ ?_) ?_); (· first | omega | (simp; omega))))
        case k1 => (try simp only [World.size_alloc, World.size_drew]) <;> omega
        case k2 => (try simp only [World.size_alloc, World.size_drew]) <;> omega
        case s1 => refine RwAt.mk ?_ ?_ ?_ <;> (repeat (first | (with_reducible assumption) | (with_reducible refine cell_set_is ?_) | (with_reducible refine has_set ?_) | (with_reducible exact has_of (by with_reducible assumption)) | ((with_reducible refine has_new ?_ ?_) <;> (first | (with_reducible rfl) | (simp; done))) | (with_reducible refine has_alloc ?_) | (with_reducible refine cell_set_off (by decide) ?_) | (with_reducible refine Kd ?_) | (with_reducible refine Kb (by with_reducible assumption) ?_) | ((with_reducible refine Kw ?_ ?_) <;> (first | (with_reducible rfl) | (simp; done))) | (with_reducible refine Ka _ ?_) | (with_reducible refine Ks _ (by first | exact Nat.le_refl _ | omega | (dsimp only; omega) | (simp only [World.size_alloc, World.size_drew, World.heap_drewN]; omega) | (simp; omega)) ?_)))
        case s2 => refine RwAt.mk ?_ ?_ ?_ <;> (repeat (first | (with_reducible assumption) | (with_reducible refine cell_set_is ?_) | (with_reducible refine has_set ?_) | (with_reducible exact has_of (by with_reducible assumption)) | ((with_reducible refine has_new ?_ ?_) <;> (first | (with_reducible rfl) | (simp; done))) | (with_reducible refine has_alloc ?_) | (with_reducible refine cell_set_off (by decide) ?_) | (with_reducible refine Kd ?_) | (with_reducible refine Kb (by with_reducible assumption) ?_) | ((with_reducible refine Kw ?_ ?_) <;> (first | (with_reducible rfl) | (simp; done))) | (with_reducible refine Ka _ ?_) | (with_reducible refine Ks _ (by first | exact Nat.le_refl _ | omega | (dsimp only; omega) | (simp only [World.size_alloc, World.size_drew, World.heap_drewN]; omega) | (simp; omega)) ?_)))
    case rest =>
      obtain ⟨b1, b2, ⟨bA1, dA1, vA1, bc1, dc1, vc1⟩, ⟨bA2, dA2, vA2, bc2, dc2, vc2⟩, rfl, rfl, HL⟩ := hcut
      clear HA HB1 a0 a1 a2
      obtain ⟨c0, c1, c2⟩ := HL.out.s1
      go_wp2_with fail
      refine (Clash_any r bA1 dA1 vA1 bc1 dc1 vc1 _ HL.out.r1).mono ?_
      intro e w5 hp
      obtain ⟨A1, k1, m1, rfl, hr1, hm1, hb1⟩ := nat_post hp
      have HL1 := Lib.hid (HL.out.later hb1)
      have HR1 := Lib.hid hr1
      have HM1 := Lib.hid hm1
      clear hp hr1 hm1 hb1 c0 c1 c2 HL
      obtain ⟨c0, c1, c2⟩ := HL1.out.s2
      go_wp2_with fail
      refine (rClash_any r bA2 dA2 vA2 bc2 dc2 vc2 _ HL1.out.r2).mono ?_
      intro e w6 hp
      obtain ⟨C1, j1, n1, rfl, hr, hm, hb⟩ := nat_post hp
      obtain rfl : n1 = m1 := by rw [hm, HM1.out]
      have hmb : n1 ≤ 1000 := by
        have h1 := clashL_bd r HL1.out.r2.m1
        rw [hm]
        split
        · exact h1
        · omega
      have HL6 := Lib.hid (HL1.out.later hb)
      have HS1 := Lib.hid hr
      have HR1' := Lib.hid ((HR1.out.below hb).mono hb.size)
      have heq : (r.clashErr == r.clashErr) = true := by simp
      have hne : (r.clashErr != r.clashErr) = false := by simp
      clear hp hr hm hb c0 c1 c2 HL1 HR1 HM1
      obtain ⟨er1, her1⟩ : ∃ x, x = r.clashErr := ⟨_, rfl⟩
      rw [← her1] at heq hne ⊢
      clear her1
      go_wp2_with fail
      refine (alike_int A1 C1 n1 n1 k1 j1 _ _ _ HR1'.out HS1.out hmb).mono ?_
      rintro e w7 ⟨rfl, hb⟩
      have hal : (decide (n1 = n1) && allN (fun k => decide (numOf r.clashL k = numOf r.clashL k)) n1) = true := by
        rw [allN_iff.2 (fun k _ => by simp)]
        simp
      rw [hal]
      have HL62 := Lib.hid (HL6.out.later hb)
      clear hb HL6 HS1 HR1' hal heq hne hmb
      obtain ⟨c0, c1, c2⟩ := HL62.out.s1
      go_wp2_with fail
      refine (Fewest_any r bA1 dA1 vA1 bc1 dc1 vc1 _ HL62.out.r1).mono ?_
      intro e w10 hp
      obtain ⟨A2, k2, m2, rfl, hr2, hm2, hb2⟩ := nat_post hp
      have HL621 := Lib.hid (HL62.out.later hb2)
      have HR2 := Lib.hid hr2
      have HM2 := Lib.hid hm2
      clear hp hr2 hm2 hb2 c0 c1 c2 HL62
      obtain ⟨c0, c1, c2⟩ := HL621.out.s2
      go_wp2_with fail
      refine (rFewest_any r bA2 dA2 vA2 bc2 dc2 vc2 _ HL621.out.r2).mono ?_
      intro e w11 hp
      obtain ⟨C2, j2, n2, rfl, hr, hm, hb⟩ := nat_post hp
      obtain rfl : n2 = m2 := by rw [hm, HM2.out]
      have hmb : n2 ≤ 1000 := by
        have h1 := fewL_bd r HL621.out.r2.m1
        rw [hm]
        split
        · exact h1
        · omega
      have HL9 := Lib.hid (HL621.out.later hb)
      have HS2 := Lib.hid hr
      have HR2' := Lib.hid ((HR2.out.below hb).mono hb.size)
      have heq : (r.check == r.check) = true := by simp
      have hne : (r.check != r.check) = false := by simp
      clear hp hr hm hb c0 c1 c2 HL621 HR2 HM2
      obtain ⟨er2, her2⟩ : ∃ x, x = r.check := ⟨_, rfl⟩
      rw [← her2] at heq hne ⊢
      clear her2
      go_wp2_with fail
      refine (alike_int A2 C2 n2 n2 k2 j2 _ _ _ HR2'.out HS2.out hmb).mono ?_
      rintro e w12 ⟨rfl, hb⟩
      have hal : (decide (n2 = n2) && allN (fun k => decide (numOf r.fewL k = numOf r.fewL k)) n2) = true := by
        rw [allN_iff.2 (fun k _ => by simp)]
        simp
      rw [hal]
      have HL92 := Lib.hid (HL9.out.later hb)
      clear hb HL9 HS2 HR2' hal heq hne hmb
      obtain ⟨c0, c1, c2⟩ := HL92.out.s1
      obtain ⟨a0, a1, a2⟩ := HL92.out.s0
      go_wp2_with fail
      refine (same_any r bA1 dA1 vA1 bA dA vA bc1 dc1 vc1 bc dc vc _ HL92.out.r1 HL92.out.r0).mono ?_
      rintro e w21 ⟨rfl, hb21⟩
      have HB21 := Lib.hid (HL92.out.later hb21).l
      clear hb21 HL92 c0 c1 c2 a0 a1 a2
      go_wp2_with fail
      refine (awake_any _).mono ?_
      rintro e w22 ⟨rfl, hb22⟩
      have HB22 := Lib.hid (HB21.out.trans (hb22.mono HB21.out.size))
      clear hb22 HB21
      go_wp2_with fail
      go_ret
      exact ⟨rfl, HB22.out⟩

set_option maxRecDepth 100000 in
theorem clash_long (r : Rw) (bA dA vA : Option Addr) (bc dc vc : Nat) (W : World) (h : r.longB = true) :
    Calls Tryz.prog 3 #[rwV bA r.n bc dA r.d dc vA r.m vc] W fun e W' => e = .returned (.bool true) ∧ Below W.heap.size W W' := by
  have H := Lib.hid h
  clear h
  go_enter Tryz.func3, Tryz.ntmps3
  go_wp2_with fail
  refine (long_any r bA dA vA bc dc vc _).mono ?_
  rintro e w1 ⟨rfl, hb1⟩
  rw [H.out]
  have HB1 := Lib.hid (show Below W.heap.size W w1 from (by repeat (first | (with_reducible first | exact Below.refl _ _ | refine Below.drew ?_ | refine below_drewN ?_ _) | ((with_reducible first | refine Lc ?_ ?_ _ | refine Ls ?_ ?_ _ | refine Lv (by assumption) ?_ ?_); · first | exact Nat.le_refl _ | omega | (simp; done) | (simp; omega) | (simp at *; omega)))))
  clear hb1
  go_wp2_with fail
  refine (awake_any _).mono ?_
  rintro e w2 ⟨rfl, hb2⟩
  have HB2 := Lib.hid (HB1.out.trans (hb2.mono HB1.out.size))
  clear hb2
  go_wp2_with fail
  go_ret
  exact ⟨rfl, HB2.out⟩
theorem clashesJ_any (r : Rw) (bA dA vA : Option Addr) (bc dc vc : Nat) (W : World) (h : RowIn W r bA bc dA dc vA vc) :
    Calls Tryz.prog 3 #[rwV bA r.n bc dA r.d dc vA r.m vc] W fun e W' => e = .returned (.bool true) ∧ Below W.heap.size W W' := by
  cases hl : r.longB with
  | true => exact clash_long r bA dA vA bc dc vc W hl
  | false => exact clashes_law r bA dA vA bc dc vc W (h.row hl)
end Go.Proofs.YtnnikeolgknfoaaGreat

set_option linter.unusedSimpArgs false
set_option linter.unusedVariables false
namespace Go.Proofs.YtnnikeolgknfoaaGreat
open Go.ChangeShapes Go.WideShapes Go.ChangeAt Go.RowKit Go.Deep Go.Joins

section
variable {H : Type} {enc : TypeId × Value → H} {w : World} {base : Nat} {spare : Nat → Bool} {held : Bool}

set_option maxRecDepth 100000 in
theorem open_bytes {fuel : Nat} {v : Value} {x : DataW H × List MemPlace} (h : DataW.trod enc Tryz.prog w base spare held fuel 92 [v] = some x) : ∃ A n c, v = .slice A n c ∧ ByIn w w.heap.size A n ∧ n ≤ maxLen := by
  rcases open_slice (e := 5) Tryz.underlying92 h with ⟨h0, _⟩ | ⟨a, len, cap, m, n, D, Pl, hcs, hb, hl, hm, hmm, hx, hi⟩
  · injection h0 with h0
    exact ⟨none, 0, 0, h0, fun k hk => absurd hk (by omega), Nat.zero_le _⟩
  · injection hcs with hcs
    have each : ∀ i, i < len → ∃ z, w.cell? (a.add i) = some (.int .u8 z) ∧ 0 ≤ z ∧ z ≤ 255 := fun k hk => by
      have him : k < m := by rw [hmm]; split <;> omega
      obtain ⟨cs', hc, ht'⟩ := hi k him
      rw [show Tryz.prog.cellsOf 5 = 1 by kernel_rfl, Nat.mul_one] at hc
      obtain ⟨_, hcl, hat⟩ := World.cells?_some hc
      obtain ⟨z, hz, hw⟩ := DataW.trod_int Tryz.underlying5 ht'
      have hcell := hat 0 (by omega)
      rw [hz] at hcell
      exact ⟨z, by simpa [Addr.add] using hcell, bounds_u8 hw.2⟩
    refine ⟨some a, len, cap, hcs, fun k hk => ?_, by omega⟩
    obtain ⟨z, hc0, hz⟩ := each k hk
    have hsp : a.spot = none := by
      obtain ⟨z0, h10, _⟩ := each 0 (by omega)
      simpa [Addr.add] using World.cell?_spot h10
    obtain ⟨b, o, sp⟩ := a
    simp only at hsp
    subst hsp
    have e : ∀ j, (⟨b, o, none⟩ : Addr).add j = ⟨b, o + j, none⟩ := fun j => Addr.add_lit _ _ _
    exact ⟨b, o, z, rfl, by have := World.block_lt_of_cell? w _ hc0; rw [e] at this; exact this, (congrArg w.cell? (e k)).symm.trans hc0, hz⟩
end
end Go.Proofs.YtnnikeolgknfoaaGreat

set_option linter.unusedSimpArgs false
set_option linter.unusedVariables false
namespace Go.Proofs.YtnnikeolgknfoaaGreat
open Go.ChangeShapes Go.WideShapes Go.ChangeAt Go.RowKit

set_option maxRecDepth 100000 in
set_option maxHeartbeats 1000000 in
theorem clashesJ_lifted (os : Os) (started : os.Started) (H : Type) (enc : TypeId × Value → H) :
    ReturnsInHanded {} Tryz.checked os 3 .any (Rows.binClashesSpec.pre6 enc Tryz.prog Tryz.f3 Rows.binClashesRow.domain false) (Rows.binClashesSpec.post enc Tryz.prog Tryz.f3 false true false false) := by
  refine returnsInHanded_of_change (C := Tryz.checked) own_knob started (by kernel_rfl) Tryz.func3
    (ChangeSpec.witness6 (enc := enc) (C := Tryz.checked) false ⟨#[], #[.agg #[.slice none 0 0, .slice none 0 0, .slice none 0 0]], []⟩ 8 (by kernel_rfl) (by kernel_rfl) (by kernel_rfl) (by kernel_rfl)) ?_
  intro W base args ds gs before hval0 hW hcnd _
  have hval : ∀ (j : Nat) t v, Tryz.f3.params[j]? = some t → args[j]? = some v → Value.okWide Tryz.prog W .any base t v := hval0
  have hW' := hW
  obtain ⟨p, q, hA0, hV, rfl, hfz, hnd⟩ := hW
  have hA : DataW.TrodAll enc Tryz.prog W 0 (fun _ => true) true Tryz.f3.params.toList args.toList ds p := hA0
  rw [Tryz.params3] at hA hval
  obtain ⟨v0, d0, rfl, rfl, h0⟩ := trodAll_one hA
  obtain ⟨rfl, rfl⟩ := trodVars_none hV
  obtain ⟨r0, bA0, dA0, vA0, bc0, dc0, vc0, rfl, hin0⟩ := open_brow (hval 0 26 v0 rfl rfl) h0
  clear hA0 hval0
  simp only [List.append_nil] at hW'
  have hlt0 : ∀ x ∈ p, x.block < W.heap.size := fun x hx => hW'.lt x (by simp [hx])
  refine (clashesJ_any r0 bA0 dA0 vA0 bc0 dc0 vc0 W hin0).mono fun e W' ⟨he, bel⟩ => ?_
  subst he
  exact ⟨_, rfl, _, _, _, [], _, [], hW', trodAll_mk1 (shut_bool Tryz.underlying4 true),
    trodAll_mk1 (Below.trod laid_out (by kernel_rfl) (of_decide_eq_true (by kernel_rfl)) h0 bel hlt0), rfl, bel.frame _, fun h => by cases h⟩

theorem bin_clashes_holds : Rows.BinClashesSaid :=
  OpenClaim.holds_of_wide 3 Tryz.f3 rfl rfl rfl rfl rfl rfl rfl ⟨rfl, rfl, rfl, rfl, rfl⟩ rfl rfl rfl rfl rfl (by kernel_rfl) Tryz.func3 (by kernel_rfl)
    (of_decide_eq_true (by kernel_rfl)) (by unfold Func.isWrapper; first | (rw [if_pos (by decide +kernel)]; kernel_rfl) | (rw [if_neg (by decide +kernel)]; exact ⟨rfl, rfl⟩))
    (fun os started H enc _ => clashesJ_lifted os started H enc)
#print axioms bin_clashes_holds
end Go.Proofs.YtnnikeolgknfoaaGreat
