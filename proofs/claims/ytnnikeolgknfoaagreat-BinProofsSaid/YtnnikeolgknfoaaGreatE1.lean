/- MadeRow: a row without weighings. -/
import Derived.Test.YtnnikeolgknfoaaGreatJa
import Derived.Test.YtnnikeolgknfoaaGreatCp
import Derived.Test.YtnnikeolgknfoaaGreatD2
set_option linter.unusedSimpArgs false
set_option linter.unusedVariables false
namespace Go.Proofs.YtnnikeolgknfoaaGreat
open Go.RowKit Go.Shelf

/-- three cells of one's own -/
structure V3 (w : World) (b : Nat) (x y z : Value) : Prop where
  c0 : w.cell? ⟨b, 0, none⟩ = some x
  c1 : w.cell? ⟨b, 1, none⟩ = some y
  c2 : w.cell? ⟨b, 2, none⟩ = some z
  f0 : w.frozen? ⟨b, 0, none⟩ = false
  f1 : w.frozen? ⟨b, 1, none⟩ = false
  f2 : w.frozen? ⟨b, 2, none⟩ = false
theorem V3.same {w w' : World} {b : Nat} {x y z : Value} (h : V3 w b x y z) (hs : w'.heap[b]? = w.heap[b]?) : V3 w' b x y z := ⟨cell_same hs h.c0, cell_same hs h.c1, cell_same hs h.c2, fro_same hs h.f0, fro_same hs h.f1, fro_same hs h.f2⟩
theorem V3.lt {w : World} {b : Nat} {x y z : Value} (h : V3 w b x y z) : b < w.heap.size := World.block_lt_of_cell? w _ h.c0
theorem V3.set0 {w : World} {b : Nat} {x y z : Value} (h : V3 w b x y z) (u : Value) : V3 (w.setCell ⟨b, 0, none⟩ u) b u y z :=
  ⟨by simp [go_sem, h.c0], by simp [go_sem, h.c1], by simp [go_sem, h.c2], Fs _ h.f0, Fs _ h.f1, Fs _ h.f2⟩
theorem V3.set1 {w : World} {b : Nat} {x y z : Value} (h : V3 w b x y z) (u : Value) : V3 (w.setCell ⟨b, 1, none⟩ u) b x u z :=
  ⟨by simp [go_sem, h.c0], by simp [go_sem, h.c1], by simp [go_sem, h.c2], Fs _ h.f0, Fs _ h.f1, Fs _ h.f2⟩
theorem V3.set2 {w : World} {b : Nat} {x y z : Value} (h : V3 w b x y z) (u : Value) : V3 (w.setCell ⟨b, 2, none⟩ u) b x y u :=
  ⟨by simp [go_sem, h.c0], by simp [go_sem, h.c1], by simp [go_sem, h.c2], Fs _ h.f0, Fs _ h.f1, Fs _ h.f2⟩
/-- a bin as it is made, of so many days -/
def goodBn (d : Nat) (x : Bn) : Prop := (∀ k, k < 3 → (0 ≤ x.lo k ∧ x.lo k ≤ 11) ∧ x.lo k ≤ x.hi k ∧ x.hi k ≤ x.lo k + 8) ∧ 0 ≤ x.s ∧ x.s ≤ d
/-- a bin's box that can be written -/
structure BxAt (w : World) (b : Nat) (x : Bn) : Prop where
  c0 : w.cell? ⟨b, 0, none⟩ = some (.int .i64 (x.lo 0))
  c1 : w.cell? ⟨b, 1, none⟩ = some (.int .i64 (x.hi 0))
  c2 : w.cell? ⟨b, 2, none⟩ = some (.int .i64 (x.lo 1))
  c3 : w.cell? ⟨b, 3, none⟩ = some (.int .i64 (x.hi 1))
  c4 : w.cell? ⟨b, 4, none⟩ = some (.int .i64 (x.lo 2))
  c5 : w.cell? ⟨b, 5, none⟩ = some (.int .i64 (x.hi 2))
  c6 : w.cell? ⟨b, 6, none⟩ = some (.int .i64 x.s)
  f0 : w.frozen? ⟨b, 0, none⟩ = false
  f1 : w.frozen? ⟨b, 1, none⟩ = false
  f2 : w.frozen? ⟨b, 2, none⟩ = false
  f3 : w.frozen? ⟨b, 3, none⟩ = false
  f4 : w.frozen? ⟨b, 4, none⟩ = false
  f5 : w.frozen? ⟨b, 5, none⟩ = false
  f6 : w.frozen? ⟨b, 6, none⟩ = false
theorem BxAt.same {w w' : World} {b : Nat} {x : Bn} (h : BxAt w b x) (hs : w'.heap[b]? = w.heap[b]?) : BxAt w' b x := ⟨cell_same hs h.c0, cell_same hs h.c1, cell_same hs h.c2, cell_same hs h.c3, cell_same hs h.c4, cell_same hs h.c5, cell_same hs h.c6, fro_same hs h.f0, fro_same hs h.f1, fro_same hs h.f2, fro_same hs h.f3, fro_same hs h.f4, fro_same hs h.f5, fro_same hs h.f6⟩
theorem BxAt.lt {w : World} {b : Nat} {x : Bn} (h : BxAt w b x) : b < w.heap.size := World.block_lt_of_cell? w _ h.c0
def Bn.put (x : Bn) (m : Nat) (l h : Int) : Bn := ⟨fun k => if k = m then l else x.lo k, fun k => if k = m then h else x.hi k, x.s⟩
theorem fro_set2 {w : World} {a b c : Addr} {u v : Value} (h : w.frozen? c = false) : ((w.setCell a u).setCell b v).frozen? c = false := Fs _ (Fs _ h)
theorem BxAt.put0 {w : World} {b : Nat} {x : Bn} (h : BxAt w b x) (u v : Int) : BxAt ((w.setCell ⟨b, 0, none⟩ (.int .i64 u)).setCell ⟨b, 1, none⟩ (.int .i64 v)) b (x.put 0 u v) :=
  ⟨by simp [go_sem, h.c0, Bn.put], by simp [go_sem, h.c1, Bn.put], by simp [go_sem, h.c2, Bn.put], by simp [go_sem, h.c3, Bn.put], by simp [go_sem, h.c4, Bn.put], by simp [go_sem, h.c5, Bn.put], by simp [go_sem, h.c6, Bn.put], fro_set2 h.f0, fro_set2 h.f1, fro_set2 h.f2, fro_set2 h.f3, fro_set2 h.f4, fro_set2 h.f5, fro_set2 h.f6⟩
theorem BxAt.put1 {w : World} {b : Nat} {x : Bn} (h : BxAt w b x) (u v : Int) : BxAt ((w.setCell ⟨b, 2, none⟩ (.int .i64 u)).setCell ⟨b, 3, none⟩ (.int .i64 v)) b (x.put 1 u v) :=
  ⟨by simp [go_sem, h.c0, Bn.put], by simp [go_sem, h.c1, Bn.put], by simp [go_sem, h.c2, Bn.put], by simp [go_sem, h.c3, Bn.put], by simp [go_sem, h.c4, Bn.put], by simp [go_sem, h.c5, Bn.put], by simp [go_sem, h.c6, Bn.put], fro_set2 h.f0, fro_set2 h.f1, fro_set2 h.f2, fro_set2 h.f3, fro_set2 h.f4, fro_set2 h.f5, fro_set2 h.f6⟩
theorem BxAt.put2 {w : World} {b : Nat} {x : Bn} (h : BxAt w b x) (u v : Int) : BxAt ((w.setCell ⟨b, 4, none⟩ (.int .i64 u)).setCell ⟨b, 5, none⟩ (.int .i64 v)) b (x.put 2 u v) :=
  ⟨by simp [go_sem, h.c0, Bn.put], by simp [go_sem, h.c1, Bn.put], by simp [go_sem, h.c2, Bn.put], by simp [go_sem, h.c3, Bn.put], by simp [go_sem, h.c4, Bn.put], by simp [go_sem, h.c5, Bn.put], by simp [go_sem, h.c6, Bn.put], fro_set2 h.f0, fro_set2 h.f1, fro_set2 h.f2, fro_set2 h.f3, fro_set2 h.f4, fro_set2 h.f5, fro_set2 h.f6⟩
theorem BxAt.puts {w : World} {b : Nat} {x : Bn} (h : BxAt w b x) (s : Int) : BxAt (w.setCell ⟨b, 6, none⟩ (.int .i64 s)) b ⟨x.lo, x.hi, s⟩ :=
  ⟨by simp [go_sem, h.c0], by simp [go_sem, h.c1], by simp [go_sem, h.c2], by simp [go_sem, h.c3], by simp [go_sem, h.c4], by simp [go_sem, h.c5], by simp [go_sem, h.c6], Fs _ h.f0, Fs _ h.f1, Fs _ h.f2, Fs _ h.f3, Fs _ h.f4, Fs _ h.f5, Fs _ h.f6⟩
/-- the row under way -/
structure MrAt (W w : World) (B cb : Nat) (lA : Option Addr) (ln lc : Nat) (vb vd : Value) (n d : Nat) (P : Nat → Bn) (D : Nat → Int) : Prop where
  o : V3 w (W.heap.size + 1) vb vd (.slice none 0 0)
  r : V3 w W.heap.size (.slice none 0 0) (.slice none 0 0) (.slice none 0 0)
  b : w.ownsRow (W.heap.size + 2) 119 7 vb n (rowC bnC P n)
  d : w.ownsRow (W.heap.size + 2) 52 1 vd d (numCells D d)
  ne : vb.ownBlock = none ∨ vb.ownBlock ≠ vd.ownBlock
  c : Chute w B cb lA ln lc
  g : W.grownBy w (some cb)
  z : W.heap.size + 2 ≤ w.heap.size
  l : cb < W.heap.size ∧ B ≤ W.heap.size
theorem MrAt.move {W w w' : World} {B cb : Nat} {lA : Option Addr} {ln lc : Nat} {vb vd : Value} {n d : Nat} {P : Nat → Bn} {D : Nat → Int} (h : MrAt W w B cb lA ln lc vb vd n d P D) (hg : w.grownBy w' (some cb)) (hc : Chute w' B cb lA ln lc) : MrAt W w' B cb lA ln lc vb vd n d P D := by
  have hl := h.l
  have hz := h.z
  have hs := hg.size
  exact ⟨h.o.same (hg.block _ (by omega) (fun e => by injection e with e; omega)), h.r.same (hg.block _ (by omega) (fun e => by injection e with e; omega)), own_keep h.b hg (by omega), own_keep h.d hg (by omega), h.ne, hc, gb_trans h.g hg, by omega, hl⟩
theorem MrAt.moveS {W w : World} {B cb : Nat} {lA : Option Addr} {ln lc : Nat} {vb vd : Value} {n d : Nat} {P : Nat → Bn} {D : Nat → Int} (h : MrAt W w B cb lA ln lc vb vd n d P D) {a : Addr} {v : Value} (ha : W.heap.size + 2 ≤ a.block ∧ vb.ownBlock ≠ some a.block ∧ vd.ownBlock ≠ some a.block) : MrAt W (w.setCell a v) B cb lA ln lc vb vd n d P D := by
  have hl := h.l
  have hk : ∀ i, i ≠ a.block → (w.setCell a v).heap[i]? = w.heap[i]? := fun i hi => set_heap _ hi
  exact ⟨h.o.same (hk _ (by omega)), h.r.same (hk _ (by omega)), owns_sm h.b (fun g h1 h2 => hk g (fun e => ha.2.1 (by rw [h2, e]))), owns_sm h.d (fun g h1 h2 => hk g (fun e => ha.2.2 (by rw [h2, e]))), h.ne, h.c.keep (fun i hi => hk i (by omega)), gb_cell h.g (by omega) _, by have := h.z; simpa [World.setCell] using this, hl⟩
/-- what MadeRow gives -/
def RowPost (nb : Int) (B cb : Nat) (lA : Option Addr) (ln lc : Nat) (W : World) (e : Ending) (W' : World) : Prop :=
  ∃ (r : Rw) (bA dA : Option Addr) (bc dc : Nat), e = .returned (rwV bA r.n bc dA r.d dc none 0 0) ∧ r.m = 0 ∧ (1 ≤ r.n ∧ (r.n : Int) ≤ nb) ∧ (1 ≤ r.d ∧ r.d ≤ 4) ∧ (∀ k, k < r.n → goodBn r.d (r.B k)) ∧ (∀ k, k < r.d → 0 ≤ r.D k ∧ r.D k ≤ 2) ∧
    OwnBn W' W.heap.size bA r.n r.B ∧ OwnInt W' W.heap.size dA r.d r.D ∧ r.n ≤ bc ∧ r.d ≤ dc ∧ W.grownBy W' (some cb) ∧ Chute W' B cb lA ln lc

set_option maxRecDepth 100000 in
set_option maxHeartbeats 8000000 in
theorem maderow_any (nb : Int) (hnb : 1 ≤ nb ∧ nb ≤ 6) (B cb : Nat) (lA : Option Addr) (ln lc : Nat) (hln : ln ≤ 9223372036854775807) (W : World) (hB : B ≤ W.heap.size) (hcb : cb < W.heap.size) (hc : Chute W B cb lA ln lc) :
    Calls Tryz.prog 123 #[.pointer (some ⟨cb, 0, none⟩), .int .i64 nb] W (RowPost nb B cb lA ln lc W) := by
  have HC := Lib.hid hc
  clear hc
  obtain ⟨i0, hi, hz0, hz1, hz2⟩ := info_parts infoKd
  obtain ⟨j0, ji, jz0, jz1, jz2⟩ := info_parts infoBn
  go_enter Tryz.func123, Tryz.ntmps123
  go_upto_region 2 with fail
  refine wp_world (fun W1 => V3 W1 W.heap.size (.slice none 0 0) (.slice none 0 0) (.slice none 0 0) ∧ V3 W1 (W.heap.size + 1) (.slice none 0 0) (.slice none 0 0) (.slice none 0 0) ∧ Below W.heap.size W W1 ∧ W1.heap.size = W.heap.size + 2) ⟨⟨(by (repeat' refine And.intro ?_ ?_) <;> (repeat (first | with_reducible assumption | (simp; done) | (with_reducible first | refine Kd ?_ | refine Kn ?_ | refine Kb (by assumption) ?_) | ((with_reducible first | refine Kw ?_ ?_ | refine Fw ?_) <;> first | with_reducible rfl | (simp; done)) | (with_reducible first | refine Ka _ ?_ | refine Ks _ (by first | exact Nat.le_refl _ | omega | (simp; done) | (simp; omega)) ?_ | refine Fd ?_ | refine Fn ?_ | refine Fb (by assumption) (by first | exact Nat.le_refl _ | omega | (simp; done) | (simp; omega)) ?_ | refine Fa _ (by first | exact Nat.le_refl _ | omega | (simp; done) | (simp; omega)) ?_ | refine Fs _ ?_)))), (by (repeat' refine And.intro ?_ ?_) <;> (repeat (first | with_reducible assumption | (simp; done) | (with_reducible first | refine Kd ?_ | refine Kn ?_ | refine Kb (by assumption) ?_) | ((with_reducible first | refine Kw ?_ ?_ | refine Fw ?_) <;> first | with_reducible rfl | (simp; done)) | (with_reducible first | refine Ka _ ?_ | refine Ks _ (by first | exact Nat.le_refl _ | omega | (simp; done) | (simp; omega)) ?_ | refine Fd ?_ | refine Fn ?_ | refine Fb (by assumption) (by first | exact Nat.le_refl _ | omega | (simp; done) | (simp; omega)) ?_ | refine Fa _ (by first | exact Nat.le_refl _ | omega | (simp; done) | (simp; omega)) ?_ | refine Fs _ ?_)))), (by (repeat' refine And.intro ?_ ?_) <;> (repeat (first | with_reducible assumption | (simp; done) | (with_reducible first | refine Kd ?_ | refine Kn ?_ | refine Kb (by assumption) ?_) | ((with_reducible first | refine Kw ?_ ?_ | refine Fw ?_) <;> first | with_reducible rfl | (simp; done)) | (with_reducible first | refine Ka _ ?_ | refine Ks _ (by first | exact Nat.le_refl _ | omega | (simp; done) | (simp; omega)) ?_ | refine Fd ?_ | refine Fn ?_ | refine Fb (by assumption) (by first | exact Nat.le_refl _ | omega | (simp; done) | (simp; omega)) ?_ | refine Fa _ (by first | exact Nat.le_refl _ | omega | (simp; done) | (simp; omega)) ?_ | refine Fs _ ?_)))), (by (repeat' refine And.intro ?_ ?_) <;> (repeat (first | with_reducible assumption | (simp; done) | (with_reducible first | refine Kd ?_ | refine Kn ?_ | refine Kb (by assumption) ?_) | ((with_reducible first | refine Kw ?_ ?_ | refine Fw ?_) <;> first | with_reducible rfl | (simp; done)) | (with_reducible first | refine Ka _ ?_ | refine Ks _ (by first | exact Nat.le_refl _ | omega | (simp; done) | (simp; omega)) ?_ | refine Fd ?_ | refine Fn ?_ | refine Fb (by assumption) (by first | exact Nat.le_refl _ | omega | (simp; done) | (simp; omega)) ?_ | refine Fa _ (by first | exact Nat.le_refl _ | omega | (simp; done) | (simp; omega)) ?_ | refine Fs _ ?_)))), (by (repeat' refine And.intro ?_ ?_) <;> (repeat (first | with_reducible assumption | (simp; done) | (with_reducible first | refine Kd ?_ | refine Kn ?_ | refine Kb (by assumption) ?_) | ((with_reducible first | refine Kw ?_ ?_ | refine Fw ?_) <;> first | with_reducible rfl | (simp; done)) | (with_reducible first | refine Ka _ ?_ | refine Ks _ (by first | exact Nat.le_refl _ | omega | (simp; done) | (simp; omega)) ?_ | refine Fd ?_ | refine Fn ?_ | refine Fb (by assumption) (by first | exact Nat.le_refl _ | omega | (simp; done) | (simp; omega)) ?_ | refine Fa _ (by first | exact Nat.le_refl _ | omega | (simp; done) | (simp; omega)) ?_ | refine Fs _ ?_)))), (by (repeat' refine And.intro ?_ ?_) <;> (repeat (first | with_reducible assumption | (simp; done) | (with_reducible first | refine Kd ?_ | refine Kn ?_ | refine Kb (by assumption) ?_) | ((with_reducible first | refine Kw ?_ ?_ | refine Fw ?_) <;> first | with_reducible rfl | (simp; done)) | (with_reducible first | refine Ka _ ?_ | refine Ks _ (by first | exact Nat.le_refl _ | omega | (simp; done) | (simp; omega)) ?_ | refine Fd ?_ | refine Fn ?_ | refine Fb (by assumption) (by first | exact Nat.le_refl _ | omega | (simp; done) | (simp; omega)) ?_ | refine Fa _ (by first | exact Nat.le_refl _ | omega | (simp; done) | (simp; omega)) ?_ | refine Fs _ ?_))))⟩, ⟨(by (repeat' refine And.intro ?_ ?_) <;> (repeat (first | with_reducible assumption | (simp; done) | (with_reducible first | refine Kd ?_ | refine Kn ?_ | refine Kb (by assumption) ?_) | ((with_reducible first | refine Kw ?_ ?_ | refine Fw ?_) <;> first | with_reducible rfl | (simp; done)) | (with_reducible first | refine Ka _ ?_ | refine Ks _ (by first | exact Nat.le_refl _ | omega | (simp; done) | (simp; omega)) ?_ | refine Fd ?_ | refine Fn ?_ | refine Fb (by assumption) (by first | exact Nat.le_refl _ | omega | (simp; done) | (simp; omega)) ?_ | refine Fa _ (by first | exact Nat.le_refl _ | omega | (simp; done) | (simp; omega)) ?_ | refine Fs _ ?_)))), (by (repeat' refine And.intro ?_ ?_) <;> (repeat (first | with_reducible assumption | (simp; done) | (with_reducible first | refine Kd ?_ | refine Kn ?_ | refine Kb (by assumption) ?_) | ((with_reducible first | refine Kw ?_ ?_ | refine Fw ?_) <;> first | with_reducible rfl | (simp; done)) | (with_reducible first | refine Ka _ ?_ | refine Ks _ (by first | exact Nat.le_refl _ | omega | (simp; done) | (simp; omega)) ?_ | refine Fd ?_ | refine Fn ?_ | refine Fb (by assumption) (by first | exact Nat.le_refl _ | omega | (simp; done) | (simp; omega)) ?_ | refine Fa _ (by first | exact Nat.le_refl _ | omega | (simp; done) | (simp; omega)) ?_ | refine Fs _ ?_)))), (by (repeat' refine And.intro ?_ ?_) <;> (repeat (first | with_reducible assumption | (simp; done) | (with_reducible first | refine Kd ?_ | refine Kn ?_ | refine Kb (by assumption) ?_) | ((with_reducible first | refine Kw ?_ ?_ | refine Fw ?_) <;> first | with_reducible rfl | (simp; done)) | (with_reducible first | refine Ka _ ?_ | refine Ks _ (by first | exact Nat.le_refl _ | omega | (simp; done) | (simp; omega)) ?_ | refine Fd ?_ | refine Fn ?_ | refine Fb (by assumption) (by first | exact Nat.le_refl _ | omega | (simp; done) | (simp; omega)) ?_ | refine Fa _ (by first | exact Nat.le_refl _ | omega | (simp; done) | (simp; omega)) ?_ | refine Fs _ ?_)))), (by (repeat' refine And.intro ?_ ?_) <;> (repeat (first | with_reducible assumption | (simp; done) | (with_reducible first | refine Kd ?_ | refine Kn ?_ | refine Kb (by assumption) ?_) | ((with_reducible first | refine Kw ?_ ?_ | refine Fw ?_) <;> first | with_reducible rfl | (simp; done)) | (with_reducible first | refine Ka _ ?_ | refine Ks _ (by first | exact Nat.le_refl _ | omega | (simp; done) | (simp; omega)) ?_ | refine Fd ?_ | refine Fn ?_ | refine Fb (by assumption) (by first | exact Nat.le_refl _ | omega | (simp; done) | (simp; omega)) ?_ | refine Fa _ (by first | exact Nat.le_refl _ | omega | (simp; done) | (simp; omega)) ?_ | refine Fs _ ?_)))), (by (repeat' refine And.intro ?_ ?_) <;> (repeat (first | with_reducible assumption | (simp; done) | (with_reducible first | refine Kd ?_ | refine Kn ?_ | refine Kb (by assumption) ?_) | ((with_reducible first | refine Kw ?_ ?_ | refine Fw ?_) <;> first | with_reducible rfl | (simp; done)) | (with_reducible first | refine Ka _ ?_ | refine Ks _ (by first | exact Nat.le_refl _ | omega | (simp; done) | (simp; omega)) ?_ | refine Fd ?_ | refine Fn ?_ | refine Fb (by assumption) (by first | exact Nat.le_refl _ | omega | (simp; done) | (simp; omega)) ?_ | refine Fa _ (by first | exact Nat.le_refl _ | omega | (simp; done) | (simp; omega)) ?_ | refine Fs _ ?_)))), (by (repeat' refine And.intro ?_ ?_) <;> (repeat (first | with_reducible assumption | (simp; done) | (with_reducible first | refine Kd ?_ | refine Kn ?_ | refine Kb (by assumption) ?_) | ((with_reducible first | refine Kw ?_ ?_ | refine Fw ?_) <;> first | with_reducible rfl | (simp; done)) | (with_reducible first | refine Ka _ ?_ | refine Ks _ (by first | exact Nat.le_refl _ | omega | (simp; done) | (simp; omega)) ?_ | refine Fd ?_ | refine Fn ?_ | refine Fb (by assumption) (by first | exact Nat.le_refl _ | omega | (simp; done) | (simp; omega)) ?_ | refine Fa _ (by first | exact Nat.le_refl _ | omega | (simp; done) | (simp; omega)) ?_ | refine Fs _ ?_))))⟩, (by repeat (first | (with_reducible first | exact Below.refl _ _ | assumption | refine Below.drew ?_) | ((with_reducible first | refine Lc ?_ ?_ _ | refine Ls ?_ ?_ _ | refine Lv (by assumption) ?_ ?_); · first | exact Nat.le_refl _ | omega | (dsimp only; omega) | (simp only [World.size_alloc, World.size_drew, World.heap_drewN]; omega) | (simp; omega)))), by simp⟩ ?_
  rintro W1 ⟨hr1, ho1, hb1, hs1⟩
  have HM1 : Hid (MrAt W W1 B cb lA ln lc (.slice none 0 0) (.slice none 0 0) 0 0 (fun _ => ⟨fun _ => 0, fun _ => 0, 0⟩) (fun _ => 0)) := Lib.hid ⟨ho1, hr1, World.ownsRow_nil _ _ _ _, World.ownsRow_nil _ _ _ _, .inl rfl, HC.out.later hb1, gb_of_below cb hb1, by omega, hcb, hB⟩
  clear hr1 ho1 hb1 hs1 HC
  go_wp2_with fail
  refine (between_any B cb lA ln lc 1 4 (by omega) (by omega) (by omega) hln _ HM1.out.c).mono ?_
  rintro e w2 ⟨nk, rfl, hk1, hk2, hg2, hc2⟩
  obtain ⟨nd, rfl⟩ := Int.eq_ofNat_of_zero_le (show 0 ≤ nk by omega)
  have hnd : 1 ≤ nd ∧ nd ≤ 4 := by omega
  have HM2 := Lib.hid (HM1.out.move hg2 hc2)
  clear hg2 hc2 hk1 hk2 HM1
  go_wp2_with fail
  go_loopw [11] (fun i wr => ∃ (k : Nat) (D : Nat → Int) (v : Value), k ≤ nd ∧ i = .int .i64 k ∧ Hid (MrAt W wr B cb lA ln lc (.slice none 0 0) v 0 k (fun _ => ⟨fun _ => 0, fun _ => 0, 0⟩) D) ∧ Hid (∀ j, j < k → 0 ≤ D j ∧ D j ≤ 2)) (fun i _ => nd - (intOf i).toNat)
  case atStart => exact ⟨0, fun _ => 0, _, Nat.zero_le _, rfl, HM2, Lib.hid (fun j hj => absurd hj (by omega))⟩
  case round =>
    clear HM2
    obtain ⟨k, D, v, hk, rfl, HM, HD⟩ := hrel
    by_cases hlt : k < nd
    · have hk0 : (0 : Int) ≤ (k : Int) := by omega
      have hkn : (k : Int) < (nd : Int) := by omega
      obtain ⟨wo, rfl⟩ : ∃ wo, wo = wr := ⟨_, rfl⟩
      have c1 := HM.out.o.c1
      have f1 := HM.out.o.f1
      have hv1 := HM.out.d.lt
      have hsz := HM.out.z
      go_upto_region 4 with fail
      go_region_law (first | (go_simp; go_at_call 61; refine (pull_any B cb lA ln lc 3 (by omega) hln _ (HM.out.c.later (by repeat (first | (with_reducible first | exact Below.refl _ _ | assumption | refine Below.drew ?_) | ((with_reducible first | refine Lc ?_ ?_ _ | refine Ls ?_ ?_ _ | refine Lv (by assumption) ?_ ?_); · first | exact Nat.le_refl _ | omega | (dsimp only; omega) | (simp only [World.size_alloc, World.size_drew, World.heap_drewN]; omega) | (simp; omega)))))).mono ?_; rintro e w3 ⟨x, rfl, hx0, hx1, hg3, hc3⟩; have hz3 := hg3.size; (try simp only [World.size_drew, World.heap_drewN, World.size_alloc] at hz3); have s3 : w3.heap[W.heap.size + 1]? = wo.heap[W.heap.size + 1]? := hg3.block _ (by (first | omega | (simp only [World.size_alloc, World.size_drew]; omega) | (simp; done) | (simp; omega))) (fun e => by injection e with e; omega); have a3 := cell_same s3 c1; have b3 := fro_same s3 f1) | (refine step_append_lies _ (by rfl) (.tmp 14) (.tmp 17) 23 (by rfl) (W.heap.size + 2) 52 i0 (.int .i64 0) 1 8 kds_under hi hz0 hz1 hz2 (by rfl) (by decide) v k (numCells D k) (by rfl) ((own_keep (owns_later HM.out.d (show Below wo.heap.size wo _ from (by repeat (first | (with_reducible first | exact Below.refl _ _ | assumption | refine Below.drew ?_) | ((with_reducible first | refine Lc ?_ ?_ _ | refine Ls ?_ ?_ _ | refine Lv (by assumption) ?_ ?_); · first | exact Nat.le_refl _ | omega | (dsimp only; omega) | (simp only [World.size_alloc, World.size_drew, World.heap_drewN]; omega) | (simp; omega)))))) hg3 (by omega)).alloc _) ⟨w3.heap.size, 0, none⟩ 1 1 [.int .i64 x] (by rfl) rfl (fun jj uu hjj => new_cells (w := w3) (t := 52) (cs := [.int .i64 x]) jj uu hjj) (by intro u hu; simp only [List.mem_cons, List.not_mem_nil, or_false] at hu; subst hu; rfl) (by omega) (by unfold maxLen; omega) (by omega) (by (first | omega | (simp only [World.size_alloc, World.size_drew]; omega) | (simp; done) | (simp; omega))) (w3.heap.size + 1) (by simp) ?_; intro g cap w6 hown6 hgr6 hat6 hlt6; have s6 : w6.heap[W.heap.size + 1]? = w3.heap[W.heap.size + 1]? := (hgr6.block _ (by (first | omega | (simp only [World.size_alloc, World.size_drew]; omega) | (simp; done) | (simp; omega))) (fun e => by have := (hv1 _ e.symm).1; omega)).trans (Below.heap_alloc _ _ _ (by omega)); have a6 := cell_same s6 a3; have b6 := fro_same s6 b3) | fail)
      all_goals
        have hm3 := HM.out.move (gb_trans (gb_of_below cb (show Below wo.heap.size wo _ from (by repeat (first | (with_reducible first | exact Below.refl _ _ | assumption | refine Below.drew ?_) | ((with_reducible first | refine Lc ?_ ?_ _ | refine Ls ?_ ?_ _ | refine Lv (by assumption) ?_ ?_); · first | exact Nat.le_refl _ | omega | (dsimp only; omega) | (simp only [World.size_alloc, World.size_drew, World.heap_drewN]; omega) | (simp; omega)))))) hg3) hc3
        have hkeep : ∀ i, i < W.heap.size + 2 → w6.heap[i]? = w3.heap[i]? := fun i hi => (hgr6.block i (by (first | omega | (simp only [World.size_alloc, World.size_drew]; omega) | (simp; done) | (simp; omega))) (fun e => by have := (hv1 i e.symm).1; omega)).trans (Below.heap_alloc _ _ _ (by omega))
        have HM6 : Hid (MrAt W (w6.setCell ⟨W.heap.size + 1, 1, none⟩ (.slice (some ⟨g, 0, none⟩) (k + 1) cap)) B cb lA ln lc (.slice none 0 0) (.slice (some ⟨g, 0, none⟩) (k + 1) cap) 0 (k + 1) (fun _ => ⟨fun _ => 0, fun _ => 0, 0⟩) (fun j => if j = k then x else D j)) := Lib.hid
          ⟨(hm3.o.same (hkeep _ (by omega))).set1 _, (hm3.r.same (hkeep _ (by omega))).same (set_heap _ (by dsimp only; omega)), World.ownsRow_nil _ _ _ _, by
            rw [← numCells_put]
            exact owns_sm hown6 (fun g h1 h2 => set_heap _ (by dsimp only; omega)), .inl rfl, hm3.c.keep (fun i hi => (set_heap _ (by dsimp only; omega)).trans (hkeep i (by omega))), gb_cell (gb_own (gb_new hm3.g _) hgr6 (fun g hgg => by have := (hv1 g hgg).1; omega)) (by dsimp only; omega) _, by have := hgr6.size; simp [World.setCell] at this ⊢; omega, hcb, hB⟩
        have HD6 : Hid (∀ j, j < k + 1 → 0 ≤ (if j = k then x else D j) ∧ (if j = k then x else D j) ≤ 2) := Lib.hid (fun j hj => by
          by_cases e : j = k
          · rw [if_pos e]; omega
          · rw [if_neg e]; exact HD.out j (by omega))
        clear hown6 hgr6 hat6 hlt6 hkeep hg3 hc3 hm3 s3 a3 b3 s6 a6 b6 c1 f1
        go_wp2_with fail
        go_roundw
        case rel => exact ⟨k + 1, _, _, by omega, by go_num, HM6, HD6⟩
        case measure => simp [intOf]; omega
    · obtain rfl : k = nd := by omega
      have hge : ¬ (k : Int) < (k : Int) := by omega
      obtain ⟨wo, rfl⟩ : ∃ wo, wo = wr := ⟨_, rfl⟩
      have hmx : max 1 nb = nb := by omega
      obtain ⟨dA, dc, rfl, hod, hdc⟩ := ownInt_T (X := D) HM.out.d
      clear hod
      go_wp2_with fail
      refine (between_any B cb lA ln lc 1 nb (by omega) (by omega) (by omega) hln _ HM.out.c).mono ?_
      rintro e w2 ⟨nk, rfl, hk1, hk2, hg2, hc2⟩
      obtain ⟨nn, rfl⟩ := Int.eq_ofNat_of_zero_le (show 0 ≤ nk by omega)
      have hnn : 1 ≤ nn ∧ (nn : Int) ≤ nb ∧ nn ≤ 6 := by omega
      have HM2 := Lib.hid (HM.out.move hg2 hc2)
      clear hg2 hc2 hk1 hk2 HM hmx
      go_wp2_with fail
      go_loopw [25] (fun i wr => ∃ (n : Nat) (P : Nat → Bn) (vb : Value), n ≤ nn ∧ i = .int .i64 n ∧ Hid (MrAt W wr B cb lA ln lc vb (.slice dA k dc) n k P D) ∧ Hid (∀ j, j < n → goodBn k (P j))) (fun i _ => nn - (intOf i).toNat)
      case atStart => exact ⟨0, fun _ => ⟨fun _ => 0, fun _ => 0, 0⟩, _, Nat.zero_le _, rfl, HM2, Lib.hid (fun j hj => absurd hj (by omega))⟩
      case round =>
        clear HM2
        obtain ⟨n, P, vb, hn, rfl, HM, HP⟩ := hrel
        obtain ⟨wo, rfl⟩ : ∃ wo, wo = wr := ⟨_, rfl⟩
        have hmz := HM.out.z
        by_cases hlt : n < nn
        · have hn0 : (0 : Int) ≤ (n : Int) := by omega
          have hni : (n : Int) < (nn : Int) := by omega
          go_upto_region 9 with fail
          refine wp_world (fun W9 => BxAt W9 wo.heap.size ⟨fun _ => 0, fun _ => 0, 0⟩ ∧ Below wo.heap.size wo W9 ∧ W9.heap.size = wo.heap.size + 1) ⟨⟨(by (repeat' refine And.intro ?_ ?_) <;> (repeat (first | with_reducible assumption | (simp; done) | (with_reducible first | refine Kd ?_ | refine Kn ?_ | refine Kb (by assumption) ?_) | ((with_reducible first | refine Kw ?_ ?_ | refine Fw ?_) <;> first | with_reducible rfl | (simp; done)) | (with_reducible first | refine Ka _ ?_ | refine Ks _ (by first | exact Nat.le_refl _ | omega | (simp; done) | (simp; omega)) ?_ | refine Fd ?_ | refine Fn ?_ | refine Fb (by assumption) (by first | exact Nat.le_refl _ | omega | (simp; done) | (simp; omega)) ?_ | refine Fa _ (by first | exact Nat.le_refl _ | omega | (simp; done) | (simp; omega)) ?_ | refine Fs _ ?_)))), (by (repeat' refine And.intro ?_ ?_) <;> (repeat (first | with_reducible assumption | (simp; done) | (with_reducible first | refine Kd ?_ | refine Kn ?_ | refine Kb (by assumption) ?_) | ((with_reducible first | refine Kw ?_ ?_ | refine Fw ?_) <;> first | with_reducible rfl | (simp; done)) | (with_reducible first | refine Ka _ ?_ | refine Ks _ (by first | exact Nat.le_refl _ | omega | (simp; done) | (simp; omega)) ?_ | refine Fd ?_ | refine Fn ?_ | refine Fb (by assumption) (by first | exact Nat.le_refl _ | omega | (simp; done) | (simp; omega)) ?_ | refine Fa _ (by first | exact Nat.le_refl _ | omega | (simp; done) | (simp; omega)) ?_ | refine Fs _ ?_)))), (by (repeat' refine And.intro ?_ ?_) <;> (repeat (first | with_reducible assumption | (simp; done) | (with_reducible first | refine Kd ?_ | refine Kn ?_ | refine Kb (by assumption) ?_) | ((with_reducible first | refine Kw ?_ ?_ | refine Fw ?_) <;> first | with_reducible rfl | (simp; done)) | (with_reducible first | refine Ka _ ?_ | refine Ks _ (by first | exact Nat.le_refl _ | omega | (simp; done) | (simp; omega)) ?_ | refine Fd ?_ | refine Fn ?_ | refine Fb (by assumption) (by first | exact Nat.le_refl _ | omega | (simp; done) | (simp; omega)) ?_ | refine Fa _ (by first | exact Nat.le_refl _ | omega | (simp; done) | (simp; omega)) ?_ | refine Fs _ ?_)))), (by (repeat' refine And.intro ?_ ?_) <;> (repeat (first | with_reducible assumption | (simp; done) | (with_reducible first | refine Kd ?_ | refine Kn ?_ | refine Kb (by assumption) ?_) | ((with_reducible first | refine Kw ?_ ?_ | refine Fw ?_) <;> first | with_reducible rfl | (simp; done)) | (with_reducible first | refine Ka _ ?_ | refine Ks _ (by first | exact Nat.le_refl _ | omega | (simp; done) | (simp; omega)) ?_ | refine Fd ?_ | refine Fn ?_ | refine Fb (by assumption) (by first | exact Nat.le_refl _ | omega | (simp; done) | (simp; omega)) ?_ | refine Fa _ (by first | exact Nat.le_refl _ | omega | (simp; done) | (simp; omega)) ?_ | refine Fs _ ?_)))), (by (repeat' refine And.intro ?_ ?_) <;> (repeat (first | with_reducible assumption | (simp; done) | (with_reducible first | refine Kd ?_ | refine Kn ?_ | refine Kb (by assumption) ?_) | ((with_reducible first | refine Kw ?_ ?_ | refine Fw ?_) <;> first | with_reducible rfl | (simp; done)) | (with_reducible first | refine Ka _ ?_ | refine Ks _ (by first | exact Nat.le_refl _ | omega | (simp; done) | (simp; omega)) ?_ | refine Fd ?_ | refine Fn ?_ | refine Fb (by assumption) (by first | exact Nat.le_refl _ | omega | (simp; done) | (simp; omega)) ?_ | refine Fa _ (by first | exact Nat.le_refl _ | omega | (simp; done) | (simp; omega)) ?_ | refine Fs _ ?_)))), (by (repeat' refine And.intro ?_ ?_) <;> (repeat (first | with_reducible assumption | (simp; done) | (with_reducible first | refine Kd ?_ | refine Kn ?_ | refine Kb (by assumption) ?_) | ((with_reducible first | refine Kw ?_ ?_ | refine Fw ?_) <;> first | with_reducible rfl | (simp; done)) | (with_reducible first | refine Ka _ ?_ | refine Ks _ (by first | exact Nat.le_refl _ | omega | (simp; done) | (simp; omega)) ?_ | refine Fd ?_ | refine Fn ?_ | refine Fb (by assumption) (by first | exact Nat.le_refl _ | omega | (simp; done) | (simp; omega)) ?_ | refine Fa _ (by first | exact Nat.le_refl _ | omega | (simp; done) | (simp; omega)) ?_ | refine Fs _ ?_)))), (by (repeat' refine And.intro ?_ ?_) <;> (repeat (first | with_reducible assumption | (simp; done) | (with_reducible first | refine Kd ?_ | refine Kn ?_ | refine Kb (by assumption) ?_) | ((with_reducible first | refine Kw ?_ ?_ | refine Fw ?_) <;> first | with_reducible rfl | (simp; done)) | (with_reducible first | refine Ka _ ?_ | refine Ks _ (by first | exact Nat.le_refl _ | omega | (simp; done) | (simp; omega)) ?_ | refine Fd ?_ | refine Fn ?_ | refine Fb (by assumption) (by first | exact Nat.le_refl _ | omega | (simp; done) | (simp; omega)) ?_ | refine Fa _ (by first | exact Nat.le_refl _ | omega | (simp; done) | (simp; omega)) ?_ | refine Fs _ ?_)))), (by (repeat' refine And.intro ?_ ?_) <;> (repeat (first | with_reducible assumption | (simp; done) | (with_reducible first | refine Kd ?_ | refine Kn ?_ | refine Kb (by assumption) ?_) | ((with_reducible first | refine Kw ?_ ?_ | refine Fw ?_) <;> first | with_reducible rfl | (simp; done)) | (with_reducible first | refine Ka _ ?_ | refine Ks _ (by first | exact Nat.le_refl _ | omega | (simp; done) | (simp; omega)) ?_ | refine Fd ?_ | refine Fn ?_ | refine Fb (by assumption) (by first | exact Nat.le_refl _ | omega | (simp; done) | (simp; omega)) ?_ | refine Fa _ (by first | exact Nat.le_refl _ | omega | (simp; done) | (simp; omega)) ?_ | refine Fs _ ?_)))), (by (repeat' refine And.intro ?_ ?_) <;> (repeat (first | with_reducible assumption | (simp; done) | (with_reducible first | refine Kd ?_ | refine Kn ?_ | refine Kb (by assumption) ?_) | ((with_reducible first | refine Kw ?_ ?_ | refine Fw ?_) <;> first | with_reducible rfl | (simp; done)) | (with_reducible first | refine Ka _ ?_ | refine Ks _ (by first | exact Nat.le_refl _ | omega | (simp; done) | (simp; omega)) ?_ | refine Fd ?_ | refine Fn ?_ | refine Fb (by assumption) (by first | exact Nat.le_refl _ | omega | (simp; done) | (simp; omega)) ?_ | refine Fa _ (by first | exact Nat.le_refl _ | omega | (simp; done) | (simp; omega)) ?_ | refine Fs _ ?_)))), (by (repeat' refine And.intro ?_ ?_) <;> (repeat (first | with_reducible assumption | (simp; done) | (with_reducible first | refine Kd ?_ | refine Kn ?_ | refine Kb (by assumption) ?_) | ((with_reducible first | refine Kw ?_ ?_ | refine Fw ?_) <;> first | with_reducible rfl | (simp; done)) | (with_reducible first | refine Ka _ ?_ | refine Ks _ (by first | exact Nat.le_refl _ | omega | (simp; done) | (simp; omega)) ?_ | refine Fd ?_ | refine Fn ?_ | refine Fb (by assumption) (by first | exact Nat.le_refl _ | omega | (simp; done) | (simp; omega)) ?_ | refine Fa _ (by first | exact Nat.le_refl _ | omega | (simp; done) | (simp; omega)) ?_ | refine Fs _ ?_)))), (by (repeat' refine And.intro ?_ ?_) <;> (repeat (first | with_reducible assumption | (simp; done) | (with_reducible first | refine Kd ?_ | refine Kn ?_ | refine Kb (by assumption) ?_) | ((with_reducible first | refine Kw ?_ ?_ | refine Fw ?_) <;> first | with_reducible rfl | (simp; done)) | (with_reducible first | refine Ka _ ?_ | refine Ks _ (by first | exact Nat.le_refl _ | omega | (simp; done) | (simp; omega)) ?_ | refine Fd ?_ | refine Fn ?_ | refine Fb (by assumption) (by first | exact Nat.le_refl _ | omega | (simp; done) | (simp; omega)) ?_ | refine Fa _ (by first | exact Nat.le_refl _ | omega | (simp; done) | (simp; omega)) ?_ | refine Fs _ ?_)))), (by (repeat' refine And.intro ?_ ?_) <;> (repeat (first | with_reducible assumption | (simp; done) | (with_reducible first | refine Kd ?_ | refine Kn ?_ | refine Kb (by assumption) ?_) | ((with_reducible first | refine Kw ?_ ?_ | refine Fw ?_) <;> first | with_reducible rfl | (simp; done)) | (with_reducible first | refine Ka _ ?_ | refine Ks _ (by first | exact Nat.le_refl _ | omega | (simp; done) | (simp; omega)) ?_ | refine Fd ?_ | refine Fn ?_ | refine Fb (by assumption) (by first | exact Nat.le_refl _ | omega | (simp; done) | (simp; omega)) ?_ | refine Fa _ (by first | exact Nat.le_refl _ | omega | (simp; done) | (simp; omega)) ?_ | refine Fs _ ?_)))), (by (repeat' refine And.intro ?_ ?_) <;> (repeat (first | with_reducible assumption | (simp; done) | (with_reducible first | refine Kd ?_ | refine Kn ?_ | refine Kb (by assumption) ?_) | ((with_reducible first | refine Kw ?_ ?_ | refine Fw ?_) <;> first | with_reducible rfl | (simp; done)) | (with_reducible first | refine Ka _ ?_ | refine Ks _ (by first | exact Nat.le_refl _ | omega | (simp; done) | (simp; omega)) ?_ | refine Fd ?_ | refine Fn ?_ | refine Fb (by assumption) (by first | exact Nat.le_refl _ | omega | (simp; done) | (simp; omega)) ?_ | refine Fa _ (by first | exact Nat.le_refl _ | omega | (simp; done) | (simp; omega)) ?_ | refine Fs _ ?_)))), (by (repeat' refine And.intro ?_ ?_) <;> (repeat (first | with_reducible assumption | (simp; done) | (with_reducible first | refine Kd ?_ | refine Kn ?_ | refine Kb (by assumption) ?_) | ((with_reducible first | refine Kw ?_ ?_ | refine Fw ?_) <;> first | with_reducible rfl | (simp; done)) | (with_reducible first | refine Ka _ ?_ | refine Ks _ (by first | exact Nat.le_refl _ | omega | (simp; done) | (simp; omega)) ?_ | refine Fd ?_ | refine Fn ?_ | refine Fb (by assumption) (by first | exact Nat.le_refl _ | omega | (simp; done) | (simp; omega)) ?_ | refine Fa _ (by first | exact Nat.le_refl _ | omega | (simp; done) | (simp; omega)) ?_ | refine Fs _ ?_))))⟩, (by repeat (first | (with_reducible first | exact Below.refl _ _ | assumption | refine Below.drew ?_) | ((with_reducible first | refine Lc ?_ ?_ _ | refine Ls ?_ ?_ _ | refine Lv (by assumption) ?_ ?_); · first | exact Nat.le_refl _ | omega | (dsimp only; omega) | (simp only [World.size_alloc, World.size_drew, World.heap_drewN]; omega) | (simp; omega)))), by simp⟩ ?_
          rintro w9 ⟨hx9, hb9, hs9⟩
          have HX9 := Lib.hid hx9
          have HC9 := Lib.hid (HM.out.c.later hb9)
          have HG9 := Lib.hid (gb_of_below cb hb9)
          have hs9' : wo.heap.size + 1 ≤ w9.heap.size := by omega
          clear hx9 hb9 hs9
          go_wp2_with fail
          go_loopw [27] (fun i wy => ∃ (m : Nat) (x : Bn), m ≤ 3 ∧ i = .int .i64 m ∧ Hid (BxAt wy wo.heap.size x) ∧ Hid (∀ q, q < m → (0 ≤ x.lo q ∧ x.lo q ≤ 11) ∧ x.lo q ≤ x.hi q ∧ x.hi q ≤ x.lo q + 8) ∧ x.s = 0 ∧ Hid (Chute wy B cb lA ln lc) ∧ Hid (wo.grownBy wy (some cb)) ∧ wo.heap.size + 1 ≤ wy.heap.size) (fun i _ => 3 - (intOf i).toNat)
          case atStart => exact ⟨0, _, by omega, rfl, HX9, Lib.hid (fun q hq => absurd hq (by omega)), rfl, HC9, HG9, hs9'⟩
          case round =>
            clear HX9 HC9 HG9 hs9'
            obtain ⟨m, x, hm, rfl, HX, hxg, hxs, HCy, HG, hsy⟩ := hrel
            obtain ⟨wy, rfl⟩ : ∃ wy, wy = wr := ⟨_, rfl⟩
            by_cases hm3 : m < 3
            · have hmi : (m : Int) < 3 := by omega
              have hm0 : (0 : Int) ≤ (m : Int) := by omega
              have h3 : m = 0 ∨ m = 1 ∨ m = 2 := by omega
              rcases h3 with rfl | rfl | rfl
              · go_wp2_with fail
                refine (pull_any B cb lA ln lc 12 (by omega) hln _ HCy.out).mono ?_
                rintro e w3 ⟨l, rfl, hl0, hl1, hg3, hc3⟩
                have HX3 := Lib.hid (HX.out.same (hg3.block _ (by omega) (fun e => by injection e with e; omega)))
                have HG3 := Lib.hid (gb_trans HG.out hg3)
                have HC3 := Lib.hid hc3
                have hz3 := hg3.size
                have hl2 : 0 ≤ l ∧ l ≤ 11 := by omega
                clear hg3 hc3 hl0 hl1
                go_wp2_with fail
                refine (pull_any B cb lA ln lc 9 (by omega) hln _ HC3.out).mono ?_
                rintro e w4 ⟨h, rfl, hh0, hh1, hg4, hc4⟩
                have HX4 := Lib.hid (HX3.out.same (hg4.block _ (by omega) (fun e => by injection e with e; omega)))
                have HG4 := Lib.hid (gb_trans HG3.out hg4)
                have HC4 := Lib.hid hc4
                have hz4 := hg4.size
                have hh2 : 0 ≤ h ∧ h ≤ 8 := by omega
                have ew : IntKind.i64.wrap (l + h) = l + h := IntWalk.i64_in _ (by omega)
                clear hg4 hc4 hh0 hh1 HX3 HG3 HC3
                go_wp2_with fail
                refine (span_fn _ _ _).mono ?_
                rintro e w5 ⟨rfl, hb5⟩
                have hx5 := HX4.out.same (hb5.block _ (by omega))
                have HXS := Lib.hid (hx5.put0 l (l + h))
                have HC5 : Hid (Chute ((w5.setCell ⟨wo.heap.size, 0, none⟩ (.int .i64 l)).setCell ⟨wo.heap.size, 1, none⟩ (.int .i64 (l + h))) B cb lA ln lc) := Lib.hid ((HC4.out.later hb5).keep (fun i hi => (set_heap _ (by dsimp only; omega)).trans (set_heap _ (by dsimp only; omega))))
                have HG5 : Hid (wo.grownBy ((w5.setCell ⟨wo.heap.size, 0, none⟩ (.int .i64 l)).setCell ⟨wo.heap.size, 1, none⟩ (.int .i64 (l + h))) (some cb)) := Lib.hid (gb_cell (gb_cell (gb_trans HG4.out (gb_of_below cb hb5)) (by dsimp only; omega) _) (by dsimp only; omega) _)
                have hz5 := hb5.size
                have hzf : wo.heap.size + 1 ≤ ((w5.setCell ⟨wo.heap.size, 0, none⟩ (.int .i64 l)).setCell ⟨wo.heap.size, 1, none⟩ (.int .i64 (l + h))).heap.size := by simp only [World.setCell, Array.size_modify]; omega
                obtain ⟨c0, c1, c2, c3, c4, c5, c6, f0, f1, f2, f3, f4, f5, f6⟩ := hx5
                have HGD : Hid (∀ q, q < 0 + 1 → (0 ≤ (x.put 0 l (l + h)).lo q ∧ (x.put 0 l (l + h)).lo q ≤ 11) ∧ (x.put 0 l (l + h)).lo q ≤ (x.put 0 l (l + h)).hi q ∧ (x.put 0 l (l + h)).hi q ≤ (x.put 0 l (l + h)).lo q + 8) := Lib.hid (fun q hq => by
                  unfold Bn.put
                  dsimp only
                  by_cases e : q = 0
                  · rw [if_pos e, if_pos e]; omega
                  · rw [if_neg e, if_neg e]; exact hxg.out q (by omega))
                clear hb5 HX4 HG4 HC4
                go_wp2_with fail
                go_roundw
                case rel => exact ⟨0 + 1, _, by omega, by go_num, HXS, HGD, hxs, HC5, HG5, hzf⟩
                case measure => simp [intOf]
              · go_wp2_with fail
                refine (pull_any B cb lA ln lc 12 (by omega) hln _ HCy.out).mono ?_
                rintro e w3 ⟨l, rfl, hl0, hl1, hg3, hc3⟩
                have HX3 := Lib.hid (HX.out.same (hg3.block _ (by omega) (fun e => by injection e with e; omega)))
                have HG3 := Lib.hid (gb_trans HG.out hg3)
                have HC3 := Lib.hid hc3
                have hz3 := hg3.size
                have hl2 : 0 ≤ l ∧ l ≤ 11 := by omega
                clear hg3 hc3 hl0 hl1
                go_wp2_with fail
                refine (pull_any B cb lA ln lc 9 (by omega) hln _ HC3.out).mono ?_
                rintro e w4 ⟨h, rfl, hh0, hh1, hg4, hc4⟩
                have HX4 := Lib.hid (HX3.out.same (hg4.block _ (by omega) (fun e => by injection e with e; omega)))
                have HG4 := Lib.hid (gb_trans HG3.out hg4)
                have HC4 := Lib.hid hc4
                have hz4 := hg4.size
                have hh2 : 0 ≤ h ∧ h ≤ 8 := by omega
                have ew : IntKind.i64.wrap (l + h) = l + h := IntWalk.i64_in _ (by omega)
                clear hg4 hc4 hh0 hh1 HX3 HG3 HC3
                go_wp2_with fail
                refine (span_fn _ _ _).mono ?_
                rintro e w5 ⟨rfl, hb5⟩
                have hx5 := HX4.out.same (hb5.block _ (by omega))
                have HXS := Lib.hid (hx5.put1 l (l + h))
                have HC5 : Hid (Chute ((w5.setCell ⟨wo.heap.size, 2, none⟩ (.int .i64 l)).setCell ⟨wo.heap.size, 3, none⟩ (.int .i64 (l + h))) B cb lA ln lc) := Lib.hid ((HC4.out.later hb5).keep (fun i hi => (set_heap _ (by dsimp only; omega)).trans (set_heap _ (by dsimp only; omega))))
                have HG5 : Hid (wo.grownBy ((w5.setCell ⟨wo.heap.size, 2, none⟩ (.int .i64 l)).setCell ⟨wo.heap.size, 3, none⟩ (.int .i64 (l + h))) (some cb)) := Lib.hid (gb_cell (gb_cell (gb_trans HG4.out (gb_of_below cb hb5)) (by dsimp only; omega) _) (by dsimp only; omega) _)
                have hz5 := hb5.size
                have hzf : wo.heap.size + 1 ≤ ((w5.setCell ⟨wo.heap.size, 2, none⟩ (.int .i64 l)).setCell ⟨wo.heap.size, 3, none⟩ (.int .i64 (l + h))).heap.size := by simp only [World.setCell, Array.size_modify]; omega
                obtain ⟨c0, c1, c2, c3, c4, c5, c6, f0, f1, f2, f3, f4, f5, f6⟩ := hx5
                have HGD : Hid (∀ q, q < 1 + 1 → (0 ≤ (x.put 1 l (l + h)).lo q ∧ (x.put 1 l (l + h)).lo q ≤ 11) ∧ (x.put 1 l (l + h)).lo q ≤ (x.put 1 l (l + h)).hi q ∧ (x.put 1 l (l + h)).hi q ≤ (x.put 1 l (l + h)).lo q + 8) := Lib.hid (fun q hq => by
                  unfold Bn.put
                  dsimp only
                  by_cases e : q = 1
                  · rw [if_pos e, if_pos e]; omega
                  · rw [if_neg e, if_neg e]; exact hxg.out q (by omega))
                clear hb5 HX4 HG4 HC4
                go_wp2_with fail
                go_roundw
                case rel => exact ⟨1 + 1, _, by omega, by go_num, HXS, HGD, hxs, HC5, HG5, hzf⟩
                case measure => simp [intOf]
              · go_wp2_with fail
                refine (pull_any B cb lA ln lc 12 (by omega) hln _ HCy.out).mono ?_
                rintro e w3 ⟨l, rfl, hl0, hl1, hg3, hc3⟩
                have HX3 := Lib.hid (HX.out.same (hg3.block _ (by omega) (fun e => by injection e with e; omega)))
                have HG3 := Lib.hid (gb_trans HG.out hg3)
                have HC3 := Lib.hid hc3
                have hz3 := hg3.size
                have hl2 : 0 ≤ l ∧ l ≤ 11 := by omega
                clear hg3 hc3 hl0 hl1
                go_wp2_with fail
                refine (pull_any B cb lA ln lc 9 (by omega) hln _ HC3.out).mono ?_
                rintro e w4 ⟨h, rfl, hh0, hh1, hg4, hc4⟩
                have HX4 := Lib.hid (HX3.out.same (hg4.block _ (by omega) (fun e => by injection e with e; omega)))
                have HG4 := Lib.hid (gb_trans HG3.out hg4)
                have HC4 := Lib.hid hc4
                have hz4 := hg4.size
                have hh2 : 0 ≤ h ∧ h ≤ 8 := by omega
                have ew : IntKind.i64.wrap (l + h) = l + h := IntWalk.i64_in _ (by omega)
                clear hg4 hc4 hh0 hh1 HX3 HG3 HC3
                go_wp2_with fail
                refine (span_fn _ _ _).mono ?_
                rintro e w5 ⟨rfl, hb5⟩
                have hx5 := HX4.out.same (hb5.block _ (by omega))
                have HXS := Lib.hid (hx5.put2 l (l + h))
                have HC5 : Hid (Chute ((w5.setCell ⟨wo.heap.size, 4, none⟩ (.int .i64 l)).setCell ⟨wo.heap.size, 5, none⟩ (.int .i64 (l + h))) B cb lA ln lc) := Lib.hid ((HC4.out.later hb5).keep (fun i hi => (set_heap _ (by dsimp only; omega)).trans (set_heap _ (by dsimp only; omega))))
                have HG5 : Hid (wo.grownBy ((w5.setCell ⟨wo.heap.size, 4, none⟩ (.int .i64 l)).setCell ⟨wo.heap.size, 5, none⟩ (.int .i64 (l + h))) (some cb)) := Lib.hid (gb_cell (gb_cell (gb_trans HG4.out (gb_of_below cb hb5)) (by dsimp only; omega) _) (by dsimp only; omega) _)
                have hz5 := hb5.size
                have hzf : wo.heap.size + 1 ≤ ((w5.setCell ⟨wo.heap.size, 4, none⟩ (.int .i64 l)).setCell ⟨wo.heap.size, 5, none⟩ (.int .i64 (l + h))).heap.size := by simp only [World.setCell, Array.size_modify]; omega
                obtain ⟨c0, c1, c2, c3, c4, c5, c6, f0, f1, f2, f3, f4, f5, f6⟩ := hx5
                have HGD : Hid (∀ q, q < 2 + 1 → (0 ≤ (x.put 2 l (l + h)).lo q ∧ (x.put 2 l (l + h)).lo q ≤ 11) ∧ (x.put 2 l (l + h)).lo q ≤ (x.put 2 l (l + h)).hi q ∧ (x.put 2 l (l + h)).hi q ≤ (x.put 2 l (l + h)).lo q + 8) := Lib.hid (fun q hq => by
                  unfold Bn.put
                  dsimp only
                  by_cases e : q = 2
                  · rw [if_pos e, if_pos e]; omega
                  · rw [if_neg e, if_neg e]; exact hxg.out q (by omega))
                clear hb5 HX4 HG4 HC4
                go_wp2_with fail
                go_roundw
                case rel => exact ⟨2 + 1, _, by omega, by go_num, HXS, HGD, hxs, HC5, HG5, hzf⟩
                case measure => simp [intOf]
            · obtain rfl : m = 3 := by omega
              have HMy := Lib.hid (HM.out.move HG.out HCy.out)
              have o1 := HMy.out.o.c1
              have ek : IntKind.i64.wrap ((k : Int) + 1) = (k : Int) + 1 := IntWalk.i64_in _ (by omega)
              go_wp2_with fail
              refine (pull_any B cb lA ln lc _ (by omega) hln _ HCy.out).mono ?_
              rintro e w3 ⟨s, rfl, hs0, hs1, hg3, hc3⟩
              have hx3 := HX.out.same (hg3.block _ (by omega) (fun e => by injection e with e; omega))
              have HM3 := Lib.hid (HMy.out.move hg3 hc3)
              have hz3 := hg3.size
              have hs2 : 0 ≤ s ∧ s ≤ k := by omega
              have HXS := Lib.hid (hx3.puts s)
              have f6 := hx3.f6
              have c6 := hx3.c6
              have HGD : Hid (goodBn k ⟨x.lo, x.hi, s⟩) := Lib.hid ⟨hxg.out, hs2⟩
              have hvb := HM.out.b.lt
              have hvd := HM.out.d.lt
              have HM4 := Lib.hid (HM3.out.moveS (v := .int .i64 s) (a := ⟨wo.heap.size, 6, none⟩) ⟨by dsimp only; omega, fun e => by have := (hvb _ e).2; dsimp only at this; omega, fun e => by have := (hvd _ e).2; dsimp only at this; omega⟩)
              clear hg3 hc3 hs0 hs1 hx3 o1 HMy HCy HG HX HM3
              go_upto_region 16 with fail
              refine wp_world (fun w' => BxAt w' wo.heap.size ⟨x.lo, x.hi, s⟩ ∧ MrAt W w' B cb lA ln lc vb (.slice dA k dc) n k P D ∧ w3.heap.size ≤ w'.heap.size) ⟨HXS.out, HM4.out, by simp only [World.setCell, Array.size_modify]; omega⟩ ?_
              rintro w4 ⟨hx4, hm4, hz4⟩
              have HX4 := Lib.hid hx4
              have HM5 := Lib.hid hm4
              obtain ⟨c0, c1, c2, c3, c4, c5, c6', -, -, -, -, -, -, -⟩ := hx4
              have o0 := hm4.o.c0
              have of0 := hm4.o.f0
              have hv1 := hm4.b.lt
              have hv2 := hm4.d.lt
              clear HXS HM4 f6 c6 hm4
              dsimp only at c0 c1 c2 c3 c4 c5 c6'
              go_upto_region 17 with (at_builtin; refine wpList_append_lies _ rfl (.tmp 50) (.tmp 52) 22 rfl (W.heap.size + 2) 119 j0 (.agg #[.int .i64 0, .int .i64 0, .int .i64 0, .int .i64 0, .int .i64 0, .int .i64 0, .int .i64 0]) 7 56 bns_under ji jz0 jz1 jz2 rfl (by decide) vb n (rowC bnC P n) rfl (HM5.out.b.alloc _) ⟨w4.heap.size, 0, none⟩ 1 1 (bnC ⟨x.lo, x.hi, s⟩) rfl rfl (new_cells (cs := bnC ⟨x.lo, x.hi, s⟩)) (bnC_one _) (by omega) (by unfold maxLen; omega) (by omega) (by simp; omega) (w4.heap.size + 1) (by simp) ?_; intro g cap w6 hown6 hgr6 hat6 hlt6; have s6 : w6.heap[W.heap.size + 1]? = w4.heap[W.heap.size + 1]? := (hgr6.block _ (by simp; omega) (fun e => by have := (hv1 _ e.symm).1; omega)).trans (Below.heap_alloc _ _ _ (by omega)); have a6 := cell_same s6 o0; have b6 := fro_same s6 of0)
              have hkeep : ∀ i, i < W.heap.size + 2 → w6.heap[i]? = w4.heap[i]? := fun i hi => (hgr6.block i (by simp; omega) (fun e => by have := (hv1 i e.symm).1; omega)).trans (Below.heap_alloc _ _ _ (by omega))
              have hz6 := hgr6.size
              simp only [World.size_alloc] at hz6
              have HM6 : Hid (MrAt W (w6.setCell ⟨W.heap.size + 1, 0, none⟩ (.slice (some ⟨g, 0, none⟩) (n + 1) cap)) B cb lA ln lc (.slice (some ⟨g, 0, none⟩) (n + 1) cap) (.slice dA k dc) (n + 1) k (fun j => if j = n then ⟨x.lo, x.hi, s⟩ else P j) D) := Lib.hid
                ⟨(HM5.out.o.same (hkeep _ (by omega))).set0 _, (HM5.out.r.same (hkeep _ (by omega))).same (set_heap _ (by dsimp only; omega)), by
                  rw [← rowC_put]
                  exact owns_sm hown6 (fun g h1 h2 => set_heap _ (by dsimp only; omega)), owns_sm HM5.out.d (fun g' h1 h2 => (set_heap _ (by dsimp only; omega)).trans ((hgr6.block g' (by simp; have := (hv2 g' h2).2; omega) (fun e => by
                    rcases HM5.out.ne with h | h
                    · rw [h] at e; cases e
                    · exact h (e.symm.trans h2.symm))).trans (Below.heap_alloc _ _ _ (hv2 g' h2).2))), .inr (fun e => by
                    have e' : some g = (Value.slice dA k dc).ownBlock := e
                    have h2 := hv2 g e'.symm
                    rcases hat6 with h | h
                    · rcases HM5.out.ne with h' | h'
                      · rw [h'] at h; cases h
                      · exact h' (h.trans e')
                    · omega), HM5.out.c.keep (fun i hi => (set_heap _ (by dsimp only; omega)).trans (hkeep i (by omega))), gb_cell (gb_own (gb_new HM5.out.g _) hgr6 (fun g hgg => by have := (hv1 g hgg).1; omega)) (by dsimp only; omega) _, by simp only [World.setCell, Array.size_modify]; omega, hcb, hB⟩
              have HP6 : Hid (∀ j, j < n + 1 → goodBn k (if j = n then ⟨x.lo, x.hi, s⟩ else P j)) := Lib.hid (fun j hj => by
                by_cases e : j = n
                · rw [if_pos e]; exact HGD.out
                · rw [if_neg e]; exact HP.out j (by omega))
              clear hown6 hgr6 hat6 hlt6 hkeep s6 a6 b6 o0 of0 c0 c1 c2 c3 c4 c5 c6'
              go_wp2_with fail
              refine ⟨?_, ?measure⟩
              case measure => simp [intOf]; omega
              exact ⟨n + 1, _, _, by omega, by go_num, HM6, HP6⟩
        · obtain rfl : n = nn := by omega
          have hge2 : ¬ (n : Int) < (n : Int) := by omega
          obtain ⟨bA, bc, rfl, hob, hbc⟩ := OwnBn.of HM.out.b
          obtain ⟨dA', dc', he, hod, hdc'⟩ := ownInt_T (X := D) HM.out.d
          injection he with e1 _ e2
          subst e1 e2
          obtain ⟨q0, q1, q2, -, -, -⟩ := HM.out.o
          obtain ⟨r0, r1, r2, f0, f1, f2⟩ := HM.out.r
          have HOB := Lib.hid hob
          have HOD := Lib.hid hod
          clear hob hod
          go_wp2_with fail
          have hk9 : ∀ w' : World, w' = ((wo.setCell ⟨W.heap.size, 0, none⟩ (.slice bA n bc)).setCell ⟨W.heap.size, 1, none⟩ (.slice dA k dc)).setCell ⟨W.heap.size, 2, none⟩ (.slice none 0 0) → ∀ i, i ≠ W.heap.size → w'.heap[i]? = wo.heap[i]? := fun w' hw i hi => by
            subst hw
            exact (set_heap _ (by exact hi)).trans ((set_heap _ (by exact hi)).trans (set_heap _ (by exact hi)))
          refine name_post ?_
          intro w' hw
          have hk := hk9 w' hw
          have hgf : W.grownBy w' (some cb) := by
            rw [hw]
            exact gb_cell (gb_cell (gb_cell HM.out.g (by dsimp only; omega) _) (by dsimp only; omega) _) (by dsimp only; omega) _
          have hres : w'.cell? ⟨W.heap.size, 0, none⟩ = some (.slice bA n bc) ∧ w'.cell? ⟨W.heap.size, 1, none⟩ = some (.slice dA k dc) ∧ w'.cell? ⟨W.heap.size, 2, none⟩ = some (.slice none 0 0) := by
            rw [hw]
            exact ⟨by simp [go_sem, r0], by simp [go_sem, r0, r1], by simp [go_sem, r0, r1, r2]⟩
          clear hw hk9
          obtain ⟨s0, s1, s2⟩ := hres
          refine bodyPost_ret (v := rwV bA n bc dA k dc none 0 0) (by simp [results, Tryz.results123, go_sem, s0, s1, s2]) rfl ⟨⟨n, P, k, D, 0, fun _ => ⟨0, 0, 0, 0⟩⟩, bA, dA, bc, dc, rfl, rfl, ⟨hnn.1, hnn.2.1⟩, hnd, HP.out, HD.out, (HOB.out.keep (fun b h1 h2 => hk b (by omega))).low (by omega), (HOD.out.keep (fun b h1 h2 => hk b (by omega))).low (by omega), hbc, hdc', hgf, HM.out.c.keep (fun i hi => hk i (by omega))⟩
end Go.Proofs.YtnnikeolgknfoaaGreat
