/- Made: a row, and contents that fit. -/
import Derived.Test.YtnnikeolgknfoaaGreatE2
set_option linter.unusedSimpArgs false
set_option linter.unusedVariables false
namespace Go.Proofs.YtnnikeolgknfoaaGreat
open Go.RowKit Go.Shelf

/-- a made row with contents -/
structure MadeRw (nb wb : Int) (r : Rw) (X : Nat → Int) : Prop where
  n : 1 ≤ r.n ∧ (r.n : Int) ≤ nb
  d : 1 ≤ r.d ∧ r.d ≤ 4
  m : (r.m : Int) ≤ wb
  b : ∀ k, k < r.n → goodBn r.d (r.B k)
  k : ∀ k, k < r.d → 0 ≤ r.D k ∧ r.D k ≤ 2
  x : ∀ k, k < r.n → (r.sp k).a ≤ X k ∧ X k ≤ (r.sp k).b
  v : ∀ k, k < r.m → wgFit r.n X (r.V k)
theorem MadeRw.ok {nb wb : Int} {r : Rw} {X : Nat → Int} (h : MadeRw nb wb r X) (h6 : nb ≤ 6) (h10 : wb ≤ 10) : r.ok :=
  ⟨h.n.1, by have := h.n.2; omega, by have := h.d.2; omega, by have := h.m; omega, fun k hk => ⟨fun j hj => by have := (h.b k hk).1 j hj; omega, (h.b k hk).2⟩, fun k hk => ⟨(h.v k hk).p, by have := (h.v k hk).e; omega, (h.v k hk).f, (h.v k hk).ft, (h.v k hk).t⟩, h.k⟩
theorem MadeRw.fits {nb wb : Int} {r : Rw} {X : Nat → Int} (h : MadeRw nb wb r X) : r.fits X :=
  Rw.fits_of h.x (fun i hi => (h.v i hi).s) (fun i hi => Int.le_trans (h.v i hi).f (h.v i hi).ft)
theorem MadeRw.round {nb wb : Int} {r : Rw} {X : Nat → Int} (h : MadeRw nb wb r X) (h6 : nb ≤ 6) (h10 : wb ≤ 10) : r.round = [] := Rw.fits_round (h.ok h6 h10) h.fits
theorem row_ok {r : Rw} (hm : r.m = 0) (hn : 1 ≤ r.n ∧ r.n ≤ 6) (hd : 1 ≤ r.d ∧ r.d ≤ 4) (hb : ∀ k, k < r.n → goodBn r.d (r.B k)) (hk : ∀ k, k < r.d → 0 ≤ r.D k ∧ r.D k ≤ 2) : r.ok :=
  ⟨hn.1, hn.2, by omega, by omega, fun k h => ⟨fun j hj => by have := (hb k h).1 j hj; omega, (hb k h).2⟩, fun k h => absurd h (by omega), hk⟩
/-- Made at work -/
structure MaAt (W w : World) (B cb : Nat) (lA : Option Addr) (ln lc lo rb : Nat) (r : Rw) (bA : Option Addr) (bc : Nat) (dA : Option Addr) (dc : Nat) (vv vx : Value) (m k : Nat) (V : Nat → Wg) (X : Nat → Int) : Prop where
  o : V3 w rb (.slice bA r.n bc) (.slice dA r.d dc) vv
  q : V3 w W.heap.size (.slice none 0 0) (.slice none 0 0) (.slice none 0 0)
  b : OwnBn w lo bA r.n r.B
  d : OwnInt w lo dA r.d r.D
  bl : (∀ a, bA = some a → a.block < rb) ∧ ∀ a, dA = some a → a.block < rb
  v : w.ownsRow (rb + 1) 101 4 vv m (rowC wgC V m)
  x : w.ownsRow (rb + 1) 3 1 vx k (numCells X k)
  ne : vx.ownBlock = none ∨ vx.ownBlock ≠ vv.ownBlock
  c : Chute w B cb lA ln lc
  g : W.grownBy w (some cb)
  z : rb + 1 ≤ w.heap.size
  l : cb < W.heap.size ∧ B ≤ W.heap.size ∧ W.heap.size < lo ∧ lo ≤ rb
theorem MaAt.move {W w w' : World} {B cb : Nat} {lA : Option Addr} {ln lc lo rb : Nat} {r : Rw} {bA : Option Addr} {bc : Nat} {dA : Option Addr} {dc : Nat} {vv vx : Value} {m k : Nat} {V : Nat → Wg} {X : Nat → Int} (h : MaAt W w B cb lA ln lc lo rb r bA bc dA dc vv vx m k V X) (hg : w.grownBy w' (some cb)) (hc : Chute w' B cb lA ln lc) : MaAt W w' B cb lA ln lc lo rb r bA bc dA dc vv vx m k V X := by
  have hl := h.l
  have hz := h.z
  have hs := hg.size
  have hk : ∀ i, i < w.heap.size → i ≠ cb → w'.heap[i]? = w.heap[i]? := fun i h1 h2 => hg.block i h1 (fun e => by injection e with e; exact h2 (by rw [← e]))
  exact ⟨h.o.same (hk _ (by omega) (by omega)), h.q.same (hk _ (by omega) (by omega)), h.b.keep (fun b h1 h2 => hk b h2 (by omega)), h.d.keep (fun b h1 h2 => hk b h2 (by omega)), h.bl, own_keep h.v hg (by omega), own_keep h.x hg (by omega), h.ne, hc, gb_trans h.g hg, by omega, hl⟩
theorem MaAt.moveO {W wo w w' : World} {B cb : Nat} {lA : Option Addr} {ln lc lo rb : Nat} {r : Rw} {bA : Option Addr} {bc : Nat} {dA : Option Addr} {dc : Nat} {vv vx : Value} {m k : Nat} {V : Nat → Wg} {X : Nat → Int} (h : MaAt W w B cb lA ln lc lo rb r bA bc dA dc vv vx m k V X) (h0 : MaAt W wo B cb lA ln lc lo rb r bA bc dA dc vv vx m k V X) (hg : wo.grownBy w' (some cb)) (hc : Chute w' B cb lA ln lc) : MaAt W w' B cb lA ln lc lo rb r bA bc dA dc vv vx m k V X := h0.move hg hc
theorem OwnBn.keepB {w w' : World} {lo n : Nat} {A : Option Addr} {P : Nat → Bn} (h : OwnBn w lo A n P) (hk : ∀ b : Nat, A = some ⟨b, 0, none⟩ → w'.heap[b]? = w.heap[b]?) : OwnBn w' lo A n P := fun k hk' => by
  obtain ⟨b, hA, hl, c0, c1, c2, c3, c4, c5, c6, hf⟩ := h k hk'
  have hs := hk b hA
  exact ⟨b, hA, hl, cell_same hs c0, cell_same hs c1, cell_same hs c2, cell_same hs c3, cell_same hs c4, cell_same hs c5, cell_same hs c6, fun i => fro_same hs (hf i)⟩
theorem OwnInt.keepB {w w' : World} {lo n : Nat} {A : Option Addr} {P : Nat → Int} (h : OwnInt w lo A n P) (hk : ∀ b : Nat, A = some ⟨b, 0, Option.none⟩ → w'.heap[b]? = w.heap[b]?) : OwnInt w' lo A n P := fun k hk' => by
  obtain ⟨b, hA, hl, c0, hf⟩ := h k hk'
  have hs := hk b hA
  exact ⟨b, hA, hl, cell_same hs c0, fun i => fro_same hs (hf i)⟩
/-- what Made gives -/
def MadePost (nb wb : Int) (B cb : Nat) (lA : Option Addr) (ln lc : Nat) (W : World) (e : Ending) (W' : World) : Prop :=
  ∃ (r : Rw) (X : Nat → Int) (bA dA vA xA : Option Addr) (bc dc vc xc : Nat), e = .returned (.tuple #[rwV bA r.n bc dA r.d dc vA r.m vc, .slice xA r.n xc]) ∧ MadeRw nb wb r X ∧
    OwnBn W' W.heap.size bA r.n r.B ∧ OwnInt W' W.heap.size dA r.d r.D ∧ OwnWg W' W.heap.size vA r.m r.V ∧ OwnInt W' W.heap.size xA r.n X ∧ (r.n ≤ bc ∧ r.d ≤ dc ∧ r.m ≤ vc ∧ r.n ≤ xc) ∧ W.grownBy W' (some cb) ∧ Chute W' B cb lA ln lc

set_option maxRecDepth 100000 in
set_option maxHeartbeats 8000000 in
theorem made_any (nb wb : Int) (hnb : 1 ≤ nb ∧ nb ≤ 6) (hwb : 0 ≤ wb ∧ wb ≤ 10) (B cb : Nat) (lA : Option Addr) (ln lc : Nat) (hln : ln ≤ 9223372036854775807) (W : World) (hB : B ≤ W.heap.size) (hcb : cb < W.heap.size) (hc : Chute W B cb lA ln lc) :
    Calls Tryz.prog 53 #[.pointer (some ⟨cb, 0, none⟩), .int .i64 nb, .int .i64 wb] W (MadePost nb wb B cb lA ln lc W) := by
  have HC := Lib.hid hc
  clear hc
  obtain ⟨i0, hi, hz0, hz1, hz2⟩ := info_parts infoWg
  obtain ⟨j0, ji, jz0, jz1, jz2⟩ := info_parts infoInt
  go_enter Tryz.func53, Tryz.ntmps53
  go_upto_region 1 with fail
  refine wp_world (fun W1 => V3 W1 W.heap.size (.slice none 0 0) (.slice none 0 0) (.slice none 0 0) ∧ Below W.heap.size W W1 ∧ W.heap.size + 1 ≤ W1.heap.size) ⟨⟨(by (repeat' refine And.intro ?_ ?_) <;> (repeat (first | with_reducible assumption | (simp; done) | (with_reducible first | refine Kd ?_ | refine Kn ?_ | refine Kb (by assumption) ?_) | ((with_reducible first | refine Kw ?_ ?_ | refine Fw ?_) <;> first | with_reducible rfl | (simp; done)) | (with_reducible first | refine Ka _ ?_ | refine Ks _ (by first | exact Nat.le_refl _ | omega | (simp; done) | (simp; omega)) ?_ | refine Fd ?_ | refine Fn ?_ | refine Fb (by assumption) (by first | exact Nat.le_refl _ | omega | (simp; done) | (simp; omega)) ?_ | refine Fa _ (by first | exact Nat.le_refl _ | omega | (simp; done) | (simp; omega)) ?_ | refine Fs _ ?_)))), (by (repeat' refine And.intro ?_ ?_) <;> (repeat (first | with_reducible assumption | (simp; done) | (with_reducible first | refine Kd ?_ | refine Kn ?_ | refine Kb (by assumption) ?_) | ((with_reducible first | refine Kw ?_ ?_ | refine Fw ?_) <;> first | with_reducible rfl | (simp; done)) | (with_reducible first | refine Ka _ ?_ | refine Ks _ (by first | exact Nat.le_refl _ | omega | (simp; done) | (simp; omega)) ?_ | refine Fd ?_ | refine Fn ?_ | refine Fb (by assumption) (by first | exact Nat.le_refl _ | omega | (simp; done) | (simp; omega)) ?_ | refine Fa _ (by first | exact Nat.le_refl _ | omega | (simp; done) | (simp; omega)) ?_ | refine Fs _ ?_)))), (by (repeat' refine And.intro ?_ ?_) <;> (repeat (first | with_reducible assumption | (simp; done) | (with_reducible first | refine Kd ?_ | refine Kn ?_ | refine Kb (by assumption) ?_) | ((with_reducible first | refine Kw ?_ ?_ | refine Fw ?_) <;> first | with_reducible rfl | (simp; done)) | (with_reducible first | refine Ka _ ?_ | refine Ks _ (by first | exact Nat.le_refl _ | omega | (simp; done) | (simp; omega)) ?_ | refine Fd ?_ | refine Fn ?_ | refine Fb (by assumption) (by first | exact Nat.le_refl _ | omega | (simp; done) | (simp; omega)) ?_ | refine Fa _ (by first | exact Nat.le_refl _ | omega | (simp; done) | (simp; omega)) ?_ | refine Fs _ ?_)))), (by (repeat' refine And.intro ?_ ?_) <;> (repeat (first | with_reducible assumption | (simp; done) | (with_reducible first | refine Kd ?_ | refine Kn ?_ | refine Kb (by assumption) ?_) | ((with_reducible first | refine Kw ?_ ?_ | refine Fw ?_) <;> first | with_reducible rfl | (simp; done)) | (with_reducible first | refine Ka _ ?_ | refine Ks _ (by first | exact Nat.le_refl _ | omega | (simp; done) | (simp; omega)) ?_ | refine Fd ?_ | refine Fn ?_ | refine Fb (by assumption) (by first | exact Nat.le_refl _ | omega | (simp; done) | (simp; omega)) ?_ | refine Fa _ (by first | exact Nat.le_refl _ | omega | (simp; done) | (simp; omega)) ?_ | refine Fs _ ?_)))), (by (repeat' refine And.intro ?_ ?_) <;> (repeat (first | with_reducible assumption | (simp; done) | (with_reducible first | refine Kd ?_ | refine Kn ?_ | refine Kb (by assumption) ?_) | ((with_reducible first | refine Kw ?_ ?_ | refine Fw ?_) <;> first | with_reducible rfl | (simp; done)) | (with_reducible first | refine Ka _ ?_ | refine Ks _ (by first | exact Nat.le_refl _ | omega | (simp; done) | (simp; omega)) ?_ | refine Fd ?_ | refine Fn ?_ | refine Fb (by assumption) (by first | exact Nat.le_refl _ | omega | (simp; done) | (simp; omega)) ?_ | refine Fa _ (by first | exact Nat.le_refl _ | omega | (simp; done) | (simp; omega)) ?_ | refine Fs _ ?_)))), (by (repeat' refine And.intro ?_ ?_) <;> (repeat (first | with_reducible assumption | (simp; done) | (with_reducible first | refine Kd ?_ | refine Kn ?_ | refine Kb (by assumption) ?_) | ((with_reducible first | refine Kw ?_ ?_ | refine Fw ?_) <;> first | with_reducible rfl | (simp; done)) | (with_reducible first | refine Ka _ ?_ | refine Ks _ (by first | exact Nat.le_refl _ | omega | (simp; done) | (simp; omega)) ?_ | refine Fd ?_ | refine Fn ?_ | refine Fb (by assumption) (by first | exact Nat.le_refl _ | omega | (simp; done) | (simp; omega)) ?_ | refine Fa _ (by first | exact Nat.le_refl _ | omega | (simp; done) | (simp; omega)) ?_ | refine Fs _ ?_))))⟩, (by repeat (first | (with_reducible first | exact Below.refl _ _ | assumption | refine Below.drew ?_) | ((with_reducible first | refine Lc ?_ ?_ _ | refine Ls ?_ ?_ _ | refine Lv (by assumption) ?_ ?_); · first | exact Nat.le_refl _ | omega | (dsimp only; omega) | (simp only [World.size_alloc, World.size_drew, World.heap_drewN]; omega) | (simp; omega)))), by simp⟩ ?_
  rintro w1 ⟨hq1, hb1, hs1⟩
  have HQ1 := Lib.hid hq1
  have HG1 := Lib.hid (gb_of_below cb hb1)
  have HC1 := Lib.hid (HC.out.later hb1)
  clear hq1 hb1 HC
  go_wp2_with fail
  refine (maderow_any nb hnb B cb lA ln lc hln _ (by omega) (by omega) HC1.out).mono ?_
  rintro e w2 ⟨r, bA, dA, bc, dc, rfl, hm0, hrn, hrd, hgb, hkd, hob, hod, hbc, hdc, hg2, hc2⟩
  have HOK := Lib.hid (row_ok hm0 (by omega) hrd hgb hkd)
  have HGB := Lib.hid hgb
  have HKD := Lib.hid hkd
  have HOB := Lib.hid hob
  have HOD := Lib.hid hod
  have HG2 := Lib.hid (gb_trans HG1.out hg2)
  have HC2 := Lib.hid hc2
  have HQ2 := Lib.hid (HQ1.out.same (hg2.block _ (by omega) (fun e => by injection e with e; omega)))
  have hs2 := hg2.size
  clear hgb hkd hob hod hg2 hc2 HQ1 HG1 HC1
  go_upto_region 2 with fail
  refine wp_world (fun W3 => V3 W3 w2.heap.size (.slice bA r.n bc) (.slice dA r.d dc) (.slice none 0 0) ∧ Below w2.heap.size w2 W3 ∧ w2.heap.size + 1 ≤ W3.heap.size) ⟨⟨(by (repeat' refine And.intro ?_ ?_) <;> (repeat (first | with_reducible assumption | (simp; done) | (with_reducible first | refine Kd ?_ | refine Kn ?_ | refine Kb (by assumption) ?_) | ((with_reducible first | refine Kw ?_ ?_ | refine Fw ?_) <;> first | with_reducible rfl | (simp; done)) | (with_reducible first | refine Ka _ ?_ | refine Ks _ (by first | exact Nat.le_refl _ | omega | (simp; done) | (simp; omega)) ?_ | refine Fd ?_ | refine Fn ?_ | refine Fb (by assumption) (by first | exact Nat.le_refl _ | omega | (simp; done) | (simp; omega)) ?_ | refine Fa _ (by first | exact Nat.le_refl _ | omega | (simp; done) | (simp; omega)) ?_ | refine Fs _ ?_)))), (by (repeat' refine And.intro ?_ ?_) <;> (repeat (first | with_reducible assumption | (simp; done) | (with_reducible first | refine Kd ?_ | refine Kn ?_ | refine Kb (by assumption) ?_) | ((with_reducible first | refine Kw ?_ ?_ | refine Fw ?_) <;> first | with_reducible rfl | (simp; done)) | (with_reducible first | refine Ka _ ?_ | refine Ks _ (by first | exact Nat.le_refl _ | omega | (simp; done) | (simp; omega)) ?_ | refine Fd ?_ | refine Fn ?_ | refine Fb (by assumption) (by first | exact Nat.le_refl _ | omega | (simp; done) | (simp; omega)) ?_ | refine Fa _ (by first | exact Nat.le_refl _ | omega | (simp; done) | (simp; omega)) ?_ | refine Fs _ ?_)))), (by (repeat' refine And.intro ?_ ?_) <;> (repeat (first | with_reducible assumption | (simp; done) | (with_reducible first | refine Kd ?_ | refine Kn ?_ | refine Kb (by assumption) ?_) | ((with_reducible first | refine Kw ?_ ?_ | refine Fw ?_) <;> first | with_reducible rfl | (simp; done)) | (with_reducible first | refine Ka _ ?_ | refine Ks _ (by first | exact Nat.le_refl _ | omega | (simp; done) | (simp; omega)) ?_ | refine Fd ?_ | refine Fn ?_ | refine Fb (by assumption) (by first | exact Nat.le_refl _ | omega | (simp; done) | (simp; omega)) ?_ | refine Fa _ (by first | exact Nat.le_refl _ | omega | (simp; done) | (simp; omega)) ?_ | refine Fs _ ?_)))), (by (repeat' refine And.intro ?_ ?_) <;> (repeat (first | with_reducible assumption | (simp; done) | (with_reducible first | refine Kd ?_ | refine Kn ?_ | refine Kb (by assumption) ?_) | ((with_reducible first | refine Kw ?_ ?_ | refine Fw ?_) <;> first | with_reducible rfl | (simp; done)) | (with_reducible first | refine Ka _ ?_ | refine Ks _ (by first | exact Nat.le_refl _ | omega | (simp; done) | (simp; omega)) ?_ | refine Fd ?_ | refine Fn ?_ | refine Fb (by assumption) (by first | exact Nat.le_refl _ | omega | (simp; done) | (simp; omega)) ?_ | refine Fa _ (by first | exact Nat.le_refl _ | omega | (simp; done) | (simp; omega)) ?_ | refine Fs _ ?_)))), (by (repeat' refine And.intro ?_ ?_) <;> (repeat (first | with_reducible assumption | (simp; done) | (with_reducible first | refine Kd ?_ | refine Kn ?_ | refine Kb (by assumption) ?_) | ((with_reducible first | refine Kw ?_ ?_ | refine Fw ?_) <;> first | with_reducible rfl | (simp; done)) | (with_reducible first | refine Ka _ ?_ | refine Ks _ (by first | exact Nat.le_refl _ | omega | (simp; done) | (simp; omega)) ?_ | refine Fd ?_ | refine Fn ?_ | refine Fb (by assumption) (by first | exact Nat.le_refl _ | omega | (simp; done) | (simp; omega)) ?_ | refine Fa _ (by first | exact Nat.le_refl _ | omega | (simp; done) | (simp; omega)) ?_ | refine Fs _ ?_)))), (by (repeat' refine And.intro ?_ ?_) <;> (repeat (first | with_reducible assumption | (simp; done) | (with_reducible first | refine Kd ?_ | refine Kn ?_ | refine Kb (by assumption) ?_) | ((with_reducible first | refine Kw ?_ ?_ | refine Fw ?_) <;> first | with_reducible rfl | (simp; done)) | (with_reducible first | refine Ka _ ?_ | refine Ks _ (by first | exact Nat.le_refl _ | omega | (simp; done) | (simp; omega)) ?_ | refine Fd ?_ | refine Fn ?_ | refine Fb (by assumption) (by first | exact Nat.le_refl _ | omega | (simp; done) | (simp; omega)) ?_ | refine Fa _ (by first | exact Nat.le_refl _ | omega | (simp; done) | (simp; omega)) ?_ | refine Fs _ ?_))))⟩, (by repeat (first | (with_reducible first | exact Below.refl _ _ | assumption | refine Below.drew ?_) | ((with_reducible first | refine Lc ?_ ?_ _ | refine Ls ?_ ?_ _ | refine Lv (by assumption) ?_ ?_); · first | exact Nat.le_refl _ | omega | (dsimp only; omega) | (simp only [World.size_alloc, World.size_drew, World.heap_drewN]; omega) | (simp; omega)))), by simp⟩ ?_
  rintro w3 ⟨ho3, hb3, hs3⟩
  have HM3 : Hid (MaAt W w3 B cb lA ln lc w1.heap.size w2.heap.size r bA bc dA dc (.slice none 0 0) (.slice none 0 0) 0 0 (fun _ => wg0) (fun _ => 0)) := Lib.hid ⟨ho3, HQ2.out.same (hb3.block _ (by omega)), HOB.out.later hb3, HOD.out.later hb3, ⟨fun a ha => by
      obtain ⟨b', h1, h2, h3, _⟩ := HOB.out 0 (by omega)
      rw [ha] at h1
      injection h1 with h1
      subst h1
      exact World.block_lt_of_cell? w2 _ h3, fun a ha => by
      obtain ⟨b', h1, h2, h3, _⟩ := HOD.out 0 (by omega)
      rw [ha] at h1
      injection h1 with h1
      subst h1
      exact World.block_lt_of_cell? w2 _ h3⟩, World.ownsRow_nil _ _ _ _, World.ownsRow_nil _ _ _ _, .inl rfl, HC2.out.later hb3, gb_trans HG2.out (gb_of_below cb hb3), hs3, by omega⟩
  have hlo : W.heap.size < w1.heap.size ∧ w1.heap.size ≤ w2.heap.size := by omega
  obtain ⟨lo, hlo'⟩ : ∃ lo, lo = w1.heap.size := ⟨_, rfl⟩
  obtain ⟨rb, hrb'⟩ : ∃ rb, rb = w2.heap.size := ⟨_, rfl⟩
  rw [← hlo', ← hrb'] at HM3
  rw [← hlo', ← hrb'] at hlo
  rw [← hrb']
  have c0 := HM3.out.o.c0
  clear ho3 hb3 hs3 hlo' hrb' HOB HOD HG2 HC2 HQ2 hs1 hs2
  have hn6 : r.n ≤ 6 := by omega
  go_wp2_with fail
  clear c0
  go_loopw [9, 21] (fun vx i wr => ∃ (k : Nat) (X : Nat → Int), k ≤ r.n ∧ i = .int .i64 k ∧ Hid (MaAt W wr B cb lA ln lc lo rb r bA bc dA dc (.slice none 0 0) vx 0 k (fun _ => wg0) X) ∧ Hid (∀ j, j < k → (r.sp j).a ≤ X j ∧ X j ≤ (r.sp j).b)) (fun _ i _ => r.n - (intOf i).toNat)
  case atStart => exact ⟨0, fun _ => 0, Nat.zero_le _, rfl, HM3, Lib.hid (fun j hj => absurd hj (by omega))⟩
  case round =>
    clear HM3
    obtain ⟨k, X, hk, rfl, HM, HX⟩ := hrel
    obtain ⟨wo, rfl⟩ : ∃ wo, wo = wr := ⟨_, rfl⟩
    have hmz := HM.out.z
    by_cases hlt : k < r.n
    · have hk0 : (0 : Int) ≤ (k : Int) := by omega
      have hkn : (k : Int) < (r.n : Int) := by omega
      obtain ⟨b, hbA, hbl, d0, d1, d2, d3, d4, d5, d6, -⟩ := HM.out.b k hlt
      have hbok := HOK.out.b k hlt
      have hgd := (HGB.out k hlt).1
      have hsp : r.sp k = ⟨(r.B k).tot (r.B k).lo r.D (r.d - (r.B k).s.toNat), (r.B k).tot (r.B k).hi r.D (r.d - (r.B k).s.toNat)⟩ := rfl
      obtain ⟨y, hy⟩ : ∃ y, y = r.B k := ⟨_, rfl⟩
      rw [← hy] at d0 d1 d2 d3 d4 d5 d6 hbok hgd hsp
      have HSP := Lib.hid hsp
      have HY := Lib.hid hgd
      have hss := hbok.s
      clear hy hsp hgd hbok
      subst hbA
      go_upto_region 6 with fail
      refine wp_world (fun W9 => BxAt W9 wo.heap.size y ∧ Below wo.heap.size wo W9 ∧ wo.heap.size + 1 ≤ W9.heap.size) ⟨⟨(by (repeat' refine And.intro ?_ ?_) <;> (repeat (first | with_reducible assumption | (simp; done) | (with_reducible first | refine Kd ?_ | refine Kn ?_ | refine Kb (by assumption) ?_) | ((with_reducible first | refine Kw ?_ ?_ | refine Fw ?_) <;> first | with_reducible rfl | (simp; done)) | (with_reducible first | refine Ka _ ?_ | refine Ks _ (by first | exact Nat.le_refl _ | omega | (simp; done) | (simp; omega)) ?_ | refine Fd ?_ | refine Fn ?_ | refine Fb (by assumption) (by first | exact Nat.le_refl _ | omega | (simp; done) | (simp; omega)) ?_ | refine Fa _ (by first | exact Nat.le_refl _ | omega | (simp; done) | (simp; omega)) ?_ | refine Fs _ ?_)))), (by (repeat' refine And.intro ?_ ?_) <;> (repeat (first | with_reducible assumption | (simp; done) | (with_reducible first | refine Kd ?_ | refine Kn ?_ | refine Kb (by assumption) ?_) | ((with_reducible first | refine Kw ?_ ?_ | refine Fw ?_) <;> first | with_reducible rfl | (simp; done)) | (with_reducible first | refine Ka _ ?_ | refine Ks _ (by first | exact Nat.le_refl _ | omega | (simp; done) | (simp; omega)) ?_ | refine Fd ?_ | refine Fn ?_ | refine Fb (by assumption) (by first | exact Nat.le_refl _ | omega | (simp; done) | (simp; omega)) ?_ | refine Fa _ (by first | exact Nat.le_refl _ | omega | (simp; done) | (simp; omega)) ?_ | refine Fs _ ?_)))), (by (repeat' refine And.intro ?_ ?_) <;> (repeat (first | with_reducible assumption | (simp; done) | (with_reducible first | refine Kd ?_ | refine Kn ?_ | refine Kb (by assumption) ?_) | ((with_reducible first | refine Kw ?_ ?_ | refine Fw ?_) <;> first | with_reducible rfl | (simp; done)) | (with_reducible first | refine Ka _ ?_ | refine Ks _ (by first | exact Nat.le_refl _ | omega | (simp; done) | (simp; omega)) ?_ | refine Fd ?_ | refine Fn ?_ | refine Fb (by assumption) (by first | exact Nat.le_refl _ | omega | (simp; done) | (simp; omega)) ?_ | refine Fa _ (by first | exact Nat.le_refl _ | omega | (simp; done) | (simp; omega)) ?_ | refine Fs _ ?_)))), (by (repeat' refine And.intro ?_ ?_) <;> (repeat (first | with_reducible assumption | (simp; done) | (with_reducible first | refine Kd ?_ | refine Kn ?_ | refine Kb (by assumption) ?_) | ((with_reducible first | refine Kw ?_ ?_ | refine Fw ?_) <;> first | with_reducible rfl | (simp; done)) | (with_reducible first | refine Ka _ ?_ | refine Ks _ (by first | exact Nat.le_refl _ | omega | (simp; done) | (simp; omega)) ?_ | refine Fd ?_ | refine Fn ?_ | refine Fb (by assumption) (by first | exact Nat.le_refl _ | omega | (simp; done) | (simp; omega)) ?_ | refine Fa _ (by first | exact Nat.le_refl _ | omega | (simp; done) | (simp; omega)) ?_ | refine Fs _ ?_)))), (by (repeat' refine And.intro ?_ ?_) <;> (repeat (first | with_reducible assumption | (simp; done) | (with_reducible first | refine Kd ?_ | refine Kn ?_ | refine Kb (by assumption) ?_) | ((with_reducible first | refine Kw ?_ ?_ | refine Fw ?_) <;> first | with_reducible rfl | (simp; done)) | (with_reducible first | refine Ka _ ?_ | refine Ks _ (by first | exact Nat.le_refl _ | omega | (simp; done) | (simp; omega)) ?_ | refine Fd ?_ | refine Fn ?_ | refine Fb (by assumption) (by first | exact Nat.le_refl _ | omega | (simp; done) | (simp; omega)) ?_ | refine Fa _ (by first | exact Nat.le_refl _ | omega | (simp; done) | (simp; omega)) ?_ | refine Fs _ ?_)))), (by (repeat' refine And.intro ?_ ?_) <;> (repeat (first | with_reducible assumption | (simp; done) | (with_reducible first | refine Kd ?_ | refine Kn ?_ | refine Kb (by assumption) ?_) | ((with_reducible first | refine Kw ?_ ?_ | refine Fw ?_) <;> first | with_reducible rfl | (simp; done)) | (with_reducible first | refine Ka _ ?_ | refine Ks _ (by first | exact Nat.le_refl _ | omega | (simp; done) | (simp; omega)) ?_ | refine Fd ?_ | refine Fn ?_ | refine Fb (by assumption) (by first | exact Nat.le_refl _ | omega | (simp; done) | (simp; omega)) ?_ | refine Fa _ (by first | exact Nat.le_refl _ | omega | (simp; done) | (simp; omega)) ?_ | refine Fs _ ?_)))), (by (repeat' refine And.intro ?_ ?_) <;> (repeat (first | with_reducible assumption | (simp; done) | (with_reducible first | refine Kd ?_ | refine Kn ?_ | refine Kb (by assumption) ?_) | ((with_reducible first | refine Kw ?_ ?_ | refine Fw ?_) <;> first | with_reducible rfl | (simp; done)) | (with_reducible first | refine Ka _ ?_ | refine Ks _ (by first | exact Nat.le_refl _ | omega | (simp; done) | (simp; omega)) ?_ | refine Fd ?_ | refine Fn ?_ | refine Fb (by assumption) (by first | exact Nat.le_refl _ | omega | (simp; done) | (simp; omega)) ?_ | refine Fa _ (by first | exact Nat.le_refl _ | omega | (simp; done) | (simp; omega)) ?_ | refine Fs _ ?_)))), (by (repeat' refine And.intro ?_ ?_) <;> (repeat (first | with_reducible assumption | (simp; done) | (with_reducible first | refine Kd ?_ | refine Kn ?_ | refine Kb (by assumption) ?_) | ((with_reducible first | refine Kw ?_ ?_ | refine Fw ?_) <;> first | with_reducible rfl | (simp; done)) | (with_reducible first | refine Ka _ ?_ | refine Ks _ (by first | exact Nat.le_refl _ | omega | (simp; done) | (simp; omega)) ?_ | refine Fd ?_ | refine Fn ?_ | refine Fb (by assumption) (by first | exact Nat.le_refl _ | omega | (simp; done) | (simp; omega)) ?_ | refine Fa _ (by first | exact Nat.le_refl _ | omega | (simp; done) | (simp; omega)) ?_ | refine Fs _ ?_)))), (by (repeat' refine And.intro ?_ ?_) <;> (repeat (first | with_reducible assumption | (simp; done) | (with_reducible first | refine Kd ?_ | refine Kn ?_ | refine Kb (by assumption) ?_) | ((with_reducible first | refine Kw ?_ ?_ | refine Fw ?_) <;> first | with_reducible rfl | (simp; done)) | (with_reducible first | refine Ka _ ?_ | refine Ks _ (by first | exact Nat.le_refl _ | omega | (simp; done) | (simp; omega)) ?_ | refine Fd ?_ | refine Fn ?_ | refine Fb (by assumption) (by first | exact Nat.le_refl _ | omega | (simp; done) | (simp; omega)) ?_ | refine Fa _ (by first | exact Nat.le_refl _ | omega | (simp; done) | (simp; omega)) ?_ | refine Fs _ ?_)))), (by (repeat' refine And.intro ?_ ?_) <;> (repeat (first | with_reducible assumption | (simp; done) | (with_reducible first | refine Kd ?_ | refine Kn ?_ | refine Kb (by assumption) ?_) | ((with_reducible first | refine Kw ?_ ?_ | refine Fw ?_) <;> first | with_reducible rfl | (simp; done)) | (with_reducible first | refine Ka _ ?_ | refine Ks _ (by first | exact Nat.le_refl _ | omega | (simp; done) | (simp; omega)) ?_ | refine Fd ?_ | refine Fn ?_ | refine Fb (by assumption) (by first | exact Nat.le_refl _ | omega | (simp; done) | (simp; omega)) ?_ | refine Fa _ (by first | exact Nat.le_refl _ | omega | (simp; done) | (simp; omega)) ?_ | refine Fs _ ?_)))), (by (repeat' refine And.intro ?_ ?_) <;> (repeat (first | with_reducible assumption | (simp; done) | (with_reducible first | refine Kd ?_ | refine Kn ?_ | refine Kb (by assumption) ?_) | ((with_reducible first | refine Kw ?_ ?_ | refine Fw ?_) <;> first | with_reducible rfl | (simp; done)) | (with_reducible first | refine Ka _ ?_ | refine Ks _ (by first | exact Nat.le_refl _ | omega | (simp; done) | (simp; omega)) ?_ | refine Fd ?_ | refine Fn ?_ | refine Fb (by assumption) (by first | exact Nat.le_refl _ | omega | (simp; done) | (simp; omega)) ?_ | refine Fa _ (by first | exact Nat.le_refl _ | omega | (simp; done) | (simp; omega)) ?_ | refine Fs _ ?_)))), (by (repeat' refine And.intro ?_ ?_) <;> (repeat (first | with_reducible assumption | (simp; done) | (with_reducible first | refine Kd ?_ | refine Kn ?_ | refine Kb (by assumption) ?_) | ((with_reducible first | refine Kw ?_ ?_ | refine Fw ?_) <;> first | with_reducible rfl | (simp; done)) | (with_reducible first | refine Ka _ ?_ | refine Ks _ (by first | exact Nat.le_refl _ | omega | (simp; done) | (simp; omega)) ?_ | refine Fd ?_ | refine Fn ?_ | refine Fb (by assumption) (by first | exact Nat.le_refl _ | omega | (simp; done) | (simp; omega)) ?_ | refine Fa _ (by first | exact Nat.le_refl _ | omega | (simp; done) | (simp; omega)) ?_ | refine Fs _ ?_)))), (by (repeat' refine And.intro ?_ ?_) <;> (repeat (first | with_reducible assumption | (simp; done) | (with_reducible first | refine Kd ?_ | refine Kn ?_ | refine Kb (by assumption) ?_) | ((with_reducible first | refine Kw ?_ ?_ | refine Fw ?_) <;> first | with_reducible rfl | (simp; done)) | (with_reducible first | refine Ka _ ?_ | refine Ks _ (by first | exact Nat.le_refl _ | omega | (simp; done) | (simp; omega)) ?_ | refine Fd ?_ | refine Fn ?_ | refine Fb (by assumption) (by first | exact Nat.le_refl _ | omega | (simp; done) | (simp; omega)) ?_ | refine Fa _ (by first | exact Nat.le_refl _ | omega | (simp; done) | (simp; omega)) ?_ | refine Fs _ ?_)))), (by (repeat' refine And.intro ?_ ?_) <;> (repeat (first | with_reducible assumption | (simp; done) | (with_reducible first | refine Kd ?_ | refine Kn ?_ | refine Kb (by assumption) ?_) | ((with_reducible first | refine Kw ?_ ?_ | refine Fw ?_) <;> first | with_reducible rfl | (simp; done)) | (with_reducible first | refine Ka _ ?_ | refine Ks _ (by first | exact Nat.le_refl _ | omega | (simp; done) | (simp; omega)) ?_ | refine Fd ?_ | refine Fn ?_ | refine Fb (by assumption) (by first | exact Nat.le_refl _ | omega | (simp; done) | (simp; omega)) ?_ | refine Fa _ (by first | exact Nat.le_refl _ | omega | (simp; done) | (simp; omega)) ?_ | refine Fs _ ?_))))⟩, (by repeat (first | (with_reducible first | exact Below.refl _ _ | assumption | refine Below.drew ?_) | ((with_reducible first | refine Lc ?_ ?_ _ | refine Ls ?_ ?_ _ | refine Lv (by assumption) ?_ ?_); · first | exact Nat.le_refl _ | omega | (dsimp only; omega) | (simp only [World.size_alloc, World.size_drew, World.heap_drewN]; omega) | (simp; omega)))), by simp⟩ ?_
      rintro w9 ⟨hx9, hb9, hs9⟩
      have HX9 := Lib.hid hx9
      have HC9 := Lib.hid (HM.out.c.later hb9)
      have HG9 := Lib.hid (gb_of_below cb hb9)
      have HM9 := Lib.hid (HM.out.move HG9.out HC9.out)
      clear hx9 hb9 d0 d1 d2 d3 d4 d5 d6
      obtain ⟨s, hs⟩ := Int.eq_ofNat_of_zero_le hss.1
      obtain ⟨L, hL⟩ : ∃ L, r.d = s + L := ⟨r.d - s, by omega⟩
      have c1 := HM9.out.o.c1
      have c6 := HX9.out.c6
      rw [hs] at c6
      have HS := Lib.hid hs
      have HDL := Lib.hid hL
      have hd7 := HOK.out.d7
      clear hs hss
      have HM0 := Lib.hid HM.out
      go_upto_region 7 with fail
      go_cut [29, 30, 31] (fun a b c wx => ∃ (A' : Option Addr) (c' : Nat), a = .slice A' L c' ∧ b = .int .i64 L ∧ c = .int .i64 0 ∧ wx = w9 ∧ Hid (IntRow w9 wo.heap.size A' L (fun j => r.D (s + j))) ∧ Hid (∀ a, A' = some a → a.block ≠ cb))
      case first =>
        have hsl : s + L - s = L := by omega
        have hsd : (s : Int) ≤ ((s + L : Nat) : Int) := by omega
        have hsc : (s : Int) ≤ (dc : Int) := by omega
        rw [hL] at c1
        by_cases hL0 : L = 0
        · subst hL0
          have HN : Hid (IntRow w9 wo.heap.size none 0 (fun j => r.D (s + j))) := Lib.hid (fun q hq => absurd hq (by omega))
          clear hL
          by_cases hcs : dc = s
          · go_wp2_with fail
            go_meet
            exact ⟨_, _, rfl, rfl, rfl, rfl, Lib.hid (fun q hq => absurd hq (by omega)), Lib.hid (fun a ha => by
              cases hdA : dA with
              | none => rw [hdA] at ha; simp at ha
              | some a' =>
                obtain ⟨b2, h1, h2, _⟩ := HM.out.d 0 (by omega)
                rw [hdA] at h1 ha
                injection h1 with h1
                subst h1
                simp at ha
                subst ha
                (try simp only [show ((⟨b2, 0, none⟩ : Addr).add s).block = b2 by by_cases hj : s = 0 <;> simp [Addr.add, hj]])
                (try dsimp only)
                omega)⟩
          · go_wp2_with fail
            go_meet
            exact ⟨_, _, rfl, rfl, rfl, rfl, Lib.hid (fun q hq => absurd hq (by omega)), Lib.hid (fun a ha => by
              cases hdA : dA with
              | none => rw [hdA] at ha; simp at ha
              | some a' =>
                obtain ⟨b2, h1, h2, _⟩ := HM.out.d 0 (by omega)
                rw [hdA] at h1 ha
                injection h1 with h1
                subst h1
                simp at ha
                subst ha
                (try simp only [show ((⟨b2, 0, none⟩ : Addr).add s).block = b2 by by_cases hj : s = 0 <;> simp [Addr.add, hj]])
                (try dsimp only)
                omega)⟩
        · obtain ⟨b2, hA2, hb2, -⟩ := HM9.out.d s (by omega)
          have hb2r := HM9.out.bl.2 _ hA2
          dsimp only at hb2r
          have HDD := Lib.hid HM9.out.d
          have hcs : ¬ dc = s := by omega
          clear HM HM9 HM0
          subst hA2
          have HN : Hid (IntRow w9 wo.heap.size (some ⟨b2, s, none⟩) L (fun j => r.D (s + j))) := Lib.hid (fun q hq => by
            obtain ⟨b3, h1, h2, h3, _⟩ := HDD.out (s + q) (by omega)
            injection h1 with h1
            injection h1 with h1
            subst h1
            exact ⟨b2, s, rfl, by omega, h3⟩)
          go_wp2_with fail
          go_meet
          exact ⟨_, _, by first | rfl | (simp; done), rfl, rfl, rfl, by first | exact HN | (simpa using HN), Lib.hid (fun a ha => by
            first
            | (injection ha with ha; subst ha; (try dsimp only); omega)
            | (simp at ha; subst ha; (try dsimp only); omega))⟩
      case rest =>
        obtain ⟨A', c', rfl, rfl, rfl, rfl, HN, HNE⟩ := hcut
        have hL4 : L ≤ 4 := by omega
        have HGC := Lib.hid HG9.out
        clear c1 c6 hL HM
        go_wp2_with fail
        go_loopw [12, 31] (fun s' i wy => ∃ (j : Nat) (u : Int), j ≤ L ∧ i = .int .i64 j ∧ (y.tot y.lo r.D j ≤ u ∧ u ≤ y.tot y.hi r.D j ∧ 0 ≤ u ∧ u ≤ 19 * (j : Int)) ∧ s' = .int .i64 u ∧ Hid (BxAt wy wo.heap.size y) ∧ Hid (Chute wy B cb lA ln lc) ∧ Hid (wo.grownBy wy (some cb)) ∧ wo.heap.size + 1 ≤ wy.heap.size) (fun _ i _ => L - (intOf i).toNat)
        case atStart => exact ⟨0, 0, by omega, rfl, ⟨Int.le_refl _, Int.le_refl _, by omega, by omega⟩, rfl, HX9, HC9, HG9, hs9⟩
        case round =>
          clear HX9 HC9 HG9 hs9
          obtain ⟨j, u, hj, rfl, hu, rfl, HXy, HCy, HG, hsy⟩ := hrel
          obtain ⟨wy, rfl⟩ : ∃ wy, wy = wr := ⟨_, rfl⟩
          by_cases hjL : j < L
          · have hj0 : (0 : Int) ≤ (j : Int) := by omega
            have hjn : (j : Int) < (L : Int) := by omega
            obtain ⟨b3, o3, hA3, hb3, e0⟩ := HN.out j hjL
            subst hA3
            have e1 : wy.cell? ⟨b3, o3 + j, none⟩ = some (.int .i64 (r.D (s + j))) := by
              have hb3c : some b3 ≠ some cb := fun e => by injection e with e; exact HNE.out _ rfl e
              exact cell_same ((HG.out.block b3 hb3 hb3c).trans (HGC.out.block b3 hb3 hb3c).symm) e0
            have hkd := HKD.out (s + j) (by have := HDL.out; omega)
            obtain ⟨K, hKd⟩ : ∃ K : Nat, r.D (s + j) = K := Int.eq_ofNat_of_zero_le hkd.1
            rw [hKd] at e1 hkd
            have h3 : K = 0 ∨ K = 1 ∨ K = 2 := by omega
            clear e0
            rcases h3 with rfl | rfl | rfl
            · have x0 := HXy.out.c0
              have x1 := HXy.out.c1
              have hgK := HY.out 0 (by omega)
              have hst1 : y.tot y.lo r.D (j + 1) = y.tot y.lo r.D j + y.lo 0 := by
                show y.tot y.lo r.D j + y.lo (r.D (y.s.toNat + j)).toNat = _
                rw [HS.out, Int.toNat_natCast, hKd]
                rfl
              have hst2 : y.tot y.hi r.D (j + 1) = y.tot y.hi r.D j + y.hi 0 := by
                show y.tot y.hi r.D j + y.hi (r.D (y.s.toNat + j)).toNat = _
                rw [HS.out, Int.toNat_natCast, hKd]
                rfl
              have HST := Lib.hid (And.intro hst1 hst2)
              clear hst1 hst2
              go_upto_region 10 with fail
              go_region_law (first | (go_simp; go_at_call 62; refine (between_any B cb lA ln lc _ _ (by omega) (by omega) (by omega) hln _ (HCy.out.later (by repeat (first | (with_reducible first | exact Below.refl _ _ | assumption | refine Below.drew ?_) | ((with_reducible first | refine Lc ?_ ?_ _ | refine Ls ?_ ?_ _ | refine Lv (by assumption) ?_ ?_); · first | exact Nat.le_refl _ | omega | (dsimp only; omega) | (simp only [World.size_alloc, World.size_drew, World.heap_drewN]; omega) | (simp; omega)))))).mono ?_; rintro e w3 ⟨v, rfl, hv0, hv1, hg3, hc3⟩; have ew : IntKind.i64.wrap (u + v) = u + v := (IntWalk.i64_in _ (by omega)); have hz3 := hg3.size; (try simp only [World.size_drew, World.heap_drewN, World.size_alloc] at hz3)) | fail)
              all_goals
                have hgy : wy.grownBy w3 (some cb) := gb_trans (gb_of_below cb (show Below wy.heap.size wy _ from (by repeat (first | (with_reducible first | exact Below.refl _ _ | assumption | refine Below.drew ?_) | ((with_reducible first | refine Lc ?_ ?_ _ | refine Ls ?_ ?_ _ | refine Lv (by assumption) ?_ ?_); · first | exact Nat.le_refl _ | omega | (dsimp only; omega) | (simp only [World.size_alloc, World.size_drew, World.heap_drewN]; omega) | (simp; omega)))))) hg3
                have HX3 := Lib.hid (HXy.out.same (hgy.block _ (by omega) (fun e => by injection e with e; omega)))
                have HG3 := Lib.hid (gb_trans HG.out hgy)
                have HC3 := Lib.hid hc3
                have hz4 : wo.heap.size + 1 ≤ w3.heap.size := by have := hgy.size; omega
                clear hg3 hc3 hgy x0 x1
                go_wp2_with fail
                go_roundw
                case rel => exact ⟨j + 1, u + v, by omega, by go_num, by rw [HST.out.1, HST.out.2]; exact ⟨by omega, by omega, by omega⟩, rfl, HX3, HC3, HG3, hz4⟩
                case measure => simp [intOf]; omega
            · have x0 := HXy.out.c2
              have x1 := HXy.out.c3
              have hgK := HY.out 1 (by omega)
              have hst1 : y.tot y.lo r.D (j + 1) = y.tot y.lo r.D j + y.lo 1 := by
                show y.tot y.lo r.D j + y.lo (r.D (y.s.toNat + j)).toNat = _
                rw [HS.out, Int.toNat_natCast, hKd]
                rfl
              have hst2 : y.tot y.hi r.D (j + 1) = y.tot y.hi r.D j + y.hi 1 := by
                show y.tot y.hi r.D j + y.hi (r.D (y.s.toNat + j)).toNat = _
                rw [HS.out, Int.toNat_natCast, hKd]
                rfl
              have HST := Lib.hid (And.intro hst1 hst2)
              clear hst1 hst2
              go_upto_region 10 with fail
              go_region_law (first | (go_simp; go_at_call 62; refine (between_any B cb lA ln lc _ _ (by omega) (by omega) (by omega) hln _ (HCy.out.later (by repeat (first | (with_reducible first | exact Below.refl _ _ | assumption | refine Below.drew ?_) | ((with_reducible first | refine Lc ?_ ?_ _ | refine Ls ?_ ?_ _ | refine Lv (by assumption) ?_ ?_); · first | exact Nat.le_refl _ | omega | (dsimp only; omega) | (simp only [World.size_alloc, World.size_drew, World.heap_drewN]; omega) | (simp; omega)))))).mono ?_; rintro e w3 ⟨v, rfl, hv0, hv1, hg3, hc3⟩; have ew : IntKind.i64.wrap (u + v) = u + v := (IntWalk.i64_in _ (by omega)); have hz3 := hg3.size; (try simp only [World.size_drew, World.heap_drewN, World.size_alloc] at hz3)) | fail)
              all_goals
                have hgy : wy.grownBy w3 (some cb) := gb_trans (gb_of_below cb (show Below wy.heap.size wy _ from (by repeat (first | (with_reducible first | exact Below.refl _ _ | assumption | refine Below.drew ?_) | ((with_reducible first | refine Lc ?_ ?_ _ | refine Ls ?_ ?_ _ | refine Lv (by assumption) ?_ ?_); · first | exact Nat.le_refl _ | omega | (dsimp only; omega) | (simp only [World.size_alloc, World.size_drew, World.heap_drewN]; omega) | (simp; omega)))))) hg3
                have HX3 := Lib.hid (HXy.out.same (hgy.block _ (by omega) (fun e => by injection e with e; omega)))
                have HG3 := Lib.hid (gb_trans HG.out hgy)
                have HC3 := Lib.hid hc3
                have hz4 : wo.heap.size + 1 ≤ w3.heap.size := by have := hgy.size; omega
                clear hg3 hc3 hgy x0 x1
                go_wp2_with fail
                go_roundw
                case rel => exact ⟨j + 1, u + v, by omega, by go_num, by rw [HST.out.1, HST.out.2]; exact ⟨by omega, by omega, by omega⟩, rfl, HX3, HC3, HG3, hz4⟩
                case measure => simp [intOf]; omega
            · have x0 := HXy.out.c4
              have x1 := HXy.out.c5
              have hgK := HY.out 2 (by omega)
              have hst1 : y.tot y.lo r.D (j + 1) = y.tot y.lo r.D j + y.lo 2 := by
                show y.tot y.lo r.D j + y.lo (r.D (y.s.toNat + j)).toNat = _
                rw [HS.out, Int.toNat_natCast, hKd]
                rfl
              have hst2 : y.tot y.hi r.D (j + 1) = y.tot y.hi r.D j + y.hi 2 := by
                show y.tot y.hi r.D j + y.hi (r.D (y.s.toNat + j)).toNat = _
                rw [HS.out, Int.toNat_natCast, hKd]
                rfl
              have HST := Lib.hid (And.intro hst1 hst2)
              clear hst1 hst2
              go_upto_region 10 with fail
              go_region_law (first | (go_simp; go_at_call 62; refine (between_any B cb lA ln lc _ _ (by omega) (by omega) (by omega) hln _ (HCy.out.later (by repeat (first | (with_reducible first | exact Below.refl _ _ | assumption | refine Below.drew ?_) | ((with_reducible first | refine Lc ?_ ?_ _ | refine Ls ?_ ?_ _ | refine Lv (by assumption) ?_ ?_); · first | exact Nat.le_refl _ | omega | (dsimp only; omega) | (simp only [World.size_alloc, World.size_drew, World.heap_drewN]; omega) | (simp; omega)))))).mono ?_; rintro e w3 ⟨v, rfl, hv0, hv1, hg3, hc3⟩; have ew : IntKind.i64.wrap (u + v) = u + v := (IntWalk.i64_in _ (by omega)); have hz3 := hg3.size; (try simp only [World.size_drew, World.heap_drewN, World.size_alloc] at hz3)) | fail)
              all_goals
                have hgy : wy.grownBy w3 (some cb) := gb_trans (gb_of_below cb (show Below wy.heap.size wy _ from (by repeat (first | (with_reducible first | exact Below.refl _ _ | assumption | refine Below.drew ?_) | ((with_reducible first | refine Lc ?_ ?_ _ | refine Ls ?_ ?_ _ | refine Lv (by assumption) ?_ ?_); · first | exact Nat.le_refl _ | omega | (dsimp only; omega) | (simp only [World.size_alloc, World.size_drew, World.heap_drewN]; omega) | (simp; omega)))))) hg3
                have HX3 := Lib.hid (HXy.out.same (hgy.block _ (by omega) (fun e => by injection e with e; omega)))
                have HG3 := Lib.hid (gb_trans HG.out hgy)
                have HC3 := Lib.hid hc3
                have hz4 : wo.heap.size + 1 ≤ w3.heap.size := by have := hgy.size; omega
                clear hg3 hc3 hgy x0 x1
                go_wp2_with fail
                go_roundw
                case rel => exact ⟨j + 1, u + v, by omega, by go_num, by rw [HST.out.1, HST.out.2]; exact ⟨by omega, by omega, by omega⟩, rfl, HX3, HC3, HG3, hz4⟩
                case measure => simp [intOf]; omega
          · obtain rfl : j = L := by omega
            have hgeL : ¬ (j : Int) < (j : Int) := by omega
            have HMy := Lib.hid (HM0.out.move HG.out HCy.out)
            have hv1 := HMy.out.x.lt
            have hv2 := HMy.out.v.lt
            have hsp : (r.sp k).a ≤ u ∧ u ≤ (r.sp k).b := by
              rw [HSP.out, HS.out, Int.toNat_natCast, HDL.out, Nat.add_sub_cancel_left]
              exact ⟨hu.1, hu.2.1⟩
            have HU := Lib.hid hsp
            clear hsp HXy HCy HG HSP HY
            go_upto_region 13 with (at_builtin; refine wpList_append_lies _ rfl (.tmp 50) (.tmp 52) 31 rfl (rb + 1) 3 j0 (.int .i64 0) 1 8 ints_under ji jz0 jz1 jz2 rfl (by decide) u9 k (numCells X k) rfl (HMy.out.x.alloc _) ⟨wy.heap.size, 0, none⟩ 1 1 [.int .i64 u] rfl rfl (new_cells (cs := [.int .i64 u])) (by intro u hu; simp only [List.mem_cons, List.not_mem_nil, or_false] at hu; subst hu; rfl) (by omega) (by unfold maxLen; omega) (by omega) (by simp; omega) (wy.heap.size + 1) (by simp) ?_; intro g cap w6 hown6 hgr6 hat6 hlt6)
            have hkeep : ∀ i, i < rb + 1 → w6.heap[i]? = wy.heap[i]? := fun i hi => (hgr6.block i (by simp; omega) (fun e => by have := (hv1 i e.symm).1; omega)).trans (Below.heap_alloc _ _ _ (by omega))
            have hz6 := hgr6.size
            simp only [World.size_alloc] at hz6
            have hlc := HMy.out.l
            have HM6 : Hid (MaAt W w6 B cb lA ln lc lo rb r (some ⟨b, 0, none⟩) bc dA dc (.slice none 0 0) (.slice (some ⟨g, 0, none⟩) (k + 1) cap) 0 (k + 1) (fun _ => wg0) (fun j => if j = k then u else X j)) := Lib.hid
              ⟨HMy.out.o.same (hkeep _ (by omega)), HMy.out.q.same (hkeep _ (by omega)), HMy.out.b.keepB (fun b hb => hkeep b (by have h := HMy.out.bl.1 _ hb; dsimp only at h; omega)), HMy.out.d.keepB (fun b hb => hkeep b (by have h := HMy.out.bl.2 _ hb; dsimp only at h; omega)), HMy.out.bl, World.ownsRow_nil _ _ _ _, by rw [← numCells_put]; exact hown6, .inr (by simp [Value.ownBlock]), HMy.out.c.keep (fun i hi => hkeep i (by omega)), gb_own (gb_new HMy.out.g _) hgr6 (fun g hgg => by have := (hv1 g hgg).1; omega), by omega, hlc⟩
            have HX6 : Hid (∀ q, q < k + 1 → (r.sp q).a ≤ (if q = k then u else X q) ∧ (if q = k then u else X q) ≤ (r.sp q).b) := Lib.hid (fun q hq => by
              by_cases e : q = k
              · rw [if_pos e, e]; exact HU.out
              · rw [if_neg e]; exact HX.out q (by omega))
            clear hown6 hgr6 hat6 hlt6 hkeep
            go_wp2_with fail
            refine ⟨?_, ?measure⟩
            case measure => simp [intOf]; omega
            exact ⟨k + 1, _, by omega, by go_num, HM6, HX6⟩
    · obtain rfl : k = r.n := by omega
      have hge : ¬ (r.n : Int) < (r.n : Int) := by omega
      obtain ⟨xA, xc, rfl, hox, hxc⟩ := ownInt_T (X := X) HM.out.x
      have hxb : ∀ j, j < r.n → 0 ≤ X j ∧ X j ≤ 400 := fun j hj => by
        have h1 := HX.out j hj
        have h2 := Rw.sp_bd HOK.out hj
        omega
      have HXB := Lib.hid hxb
      have hxlo : ∀ a, xA = some a → a.block ≠ cb := fun a ha => by
        obtain ⟨b', h1, h2, _⟩ := hox 0 (by omega)
        rw [ha] at h1
        injection h1 with h1
        subst h1
        have := HM.out.l
        dsimp only
        omega
      have HXL := Lib.hid hxlo
      have ewb : IntKind.i64.wrap (wb + 1) = wb + 1 := IntWalk.i64_in _ (by omega)
      clear hxb hxlo hox
      go_wp2_with fail
      refine (pull_any B cb lA ln lc (wb + 1) (by omega) hln _ HM.out.c).mono ?_
      rintro e w5 ⟨mm, rfl, hm1, hm2, hg5, hc5⟩
      obtain ⟨mm, rfl⟩ := Int.eq_ofNat_of_zero_le hm1
      have hmm : (mm : Int) ≤ wb ∧ mm ≤ 10 := by omega
      have HM5 := Lib.hid (HM.out.move hg5 hc5)
      clear hg5 hc5 hm1 hm2 HM ewb
      go_wp2_with fail
      go_loopw [59] (fun i wr => ∃ (m : Nat) (V : Nat → Wg) (vv : Value), m ≤ mm ∧ i = .int .i64 m ∧ Hid (MaAt W wr B cb lA ln lc lo rb r bA bc dA dc vv (.slice xA r.n xc) m r.n V X) ∧ Hid (∀ j, j < m → wgFit r.n X (V j))) (fun i _ => mm - (intOf i).toNat)
      case atStart => exact ⟨0, _, _, Nat.zero_le _, rfl, HM5, Lib.hid (fun j hj => absurd hj (by omega))⟩
      case round =>
        clear HM5
        obtain ⟨m, V, vv, hm, rfl, HM, HV⟩ := hrel
        obtain ⟨wo, rfl⟩ : ∃ wo, wo = wr := ⟨_, rfl⟩
        have hmz := HM.out.z
        have hml := HM.out.l
        by_cases hlt : m < mm
        · have hm0' : (0 : Int) ≤ (m : Int) := by omega
          have hmi : (m : Int) < (mm : Int) := by omega
          have c2 := HM.out.o.c2
          have f2 := HM.out.o.f2
          have hv1 := HM.out.v.lt
          have hvx := HM.out.x.lt
          have HXR : Hid (IntRow wo wo.heap.size xA r.n X) := Lib.hid (by
            obtain ⟨xA', xc', he, hox, _⟩ := ownInt_T (X := X) HM.out.x
            injection he with e1 _ e2
            subst e1
            exact hox.row)
          go_upto_region 16 with fail
          go_region_law (first | (go_simp; go_at_call 124; refine (weighed_any xA r.n xc X (by omega) hxc HXB.out B cb lA ln lc hln _ (by (first | omega | (simp only [World.size_alloc, World.size_drew]; omega) | (simp; done) | (simp; omega))) (by (first | omega | (simp only [World.size_alloc, World.size_drew]; omega) | (simp; done) | (simp; omega))) (HM.out.c.later (by repeat (first | (with_reducible first | exact Below.refl _ _ | assumption | refine Below.drew ?_) | ((with_reducible first | refine Lc ?_ ?_ _ | refine Ls ?_ ?_ _ | refine Lv (by assumption) ?_ ?_); · first | exact Nat.le_refl _ | omega | (dsimp only; omega) | (simp only [World.size_alloc, World.size_drew, World.heap_drewN]; omega) | (simp; omega))))) ((HXR.out.below (by repeat (first | (with_reducible first | exact Below.refl _ _ | assumption | refine Below.drew ?_) | ((with_reducible first | refine Lc ?_ ?_ _ | refine Ls ?_ ?_ _ | refine Lv (by assumption) ?_ ?_); · first | exact Nat.le_refl _ | omega | (dsimp only; omega) | (simp only [World.size_alloc, World.size_drew, World.heap_drewN]; omega) | (simp; omega))))).mono (by (first | omega | (simp only [World.size_alloc, World.size_drew]; omega) | (simp; done) | (simp; omega)))) HXL.out).mono ?_; rintro e w3 ⟨x, rfl, hfit, hg3, hc3⟩; have hz3 := hg3.size; (try simp only [World.size_drew, World.heap_drewN, World.size_alloc] at hz3); have s3 : w3.heap[rb]? = wo.heap[rb]? := hg3.block _ (by (first | omega | (simp only [World.size_alloc, World.size_drew]; omega) | (simp; done) | (simp; omega))) (fun e => by injection e with e; omega); have a3 := cell_same s3 c2; have b3 := fro_same s3 f2) | (refine step_append_lies _ (by rfl) (.tmp 62) (.tmp 66) 24 (by rfl) (rb + 1) 101 i0 (.agg #[.int .i64 0, .int .i64 0, .int .i64 0, .int .i64 0]) 4 32 wgs_under hi hz0 hz1 hz2 (by rfl) (by decide) vv m (rowC wgC V m) (by rfl) ((own_keep (owns_later HM.out.v (show Below wo.heap.size wo _ from (by repeat (first | (with_reducible first | exact Below.refl _ _ | assumption | refine Below.drew ?_) | ((with_reducible first | refine Lc ?_ ?_ _ | refine Ls ?_ ?_ _ | refine Lv (by assumption) ?_ ?_); · first | exact Nat.le_refl _ | omega | (dsimp only; omega) | (simp only [World.size_alloc, World.size_drew, World.heap_drewN]; omega) | (simp; omega)))))) hg3 (by omega)).alloc _) ⟨w3.heap.size, 0, none⟩ 1 1 (wgC x) (by rfl) rfl (fun jj uu hjj => new_cells (w := w3) (t := 101) (cs := wgC x) jj uu hjj) (wgC_one x) (by omega) (by unfold maxLen; omega) (by omega) (by (first | omega | (simp only [World.size_alloc, World.size_drew]; omega) | (simp; done) | (simp; omega))) (w3.heap.size + 1) (by simp) ?_; intro g cap w6 hown6 hgr6 hat6 hlt6; have s6 : w6.heap[rb]? = w3.heap[rb]? := (hgr6.block _ (by (first | omega | (simp only [World.size_alloc, World.size_drew]; omega) | (simp; done) | (simp; omega))) (fun e => by have := (hv1 _ e.symm).1; omega)).trans (Below.heap_alloc _ _ _ (by omega)); have a6 := cell_same s6 a3; have b6 := fro_same s6 b3) | fail)
          all_goals
            have hm3 := HM.out.move (gb_trans (gb_of_below cb (show Below wo.heap.size wo _ from (by repeat (first | (with_reducible first | exact Below.refl _ _ | assumption | refine Below.drew ?_) | ((with_reducible first | refine Lc ?_ ?_ _ | refine Ls ?_ ?_ _ | refine Lv (by assumption) ?_ ?_); · first | exact Nat.le_refl _ | omega | (dsimp only; omega) | (simp only [World.size_alloc, World.size_drew, World.heap_drewN]; omega) | (simp; omega)))))) hg3) hc3
            have hkeep : ∀ i, i < rb + 1 → w6.heap[i]? = w3.heap[i]? := fun i hi => (hgr6.block i (by (first | omega | (simp only [World.size_alloc, World.size_drew]; omega) | (simp; done) | (simp; omega))) (fun e => by have := (hv1 i e.symm).1; omega)).trans (Below.heap_alloc _ _ _ (by omega))
            have hz6 := hgr6.size
            simp only [World.size_alloc] at hz6
            have hx3 := hm3.x.lt
            have hne3 := hm3.ne
            have HM6 : Hid (MaAt W (w6.setCell ⟨rb, 2, none⟩ (.slice (some ⟨g, 0, none⟩) (m + 1) cap)) B cb lA ln lc lo rb r bA bc dA dc (.slice (some ⟨g, 0, none⟩) (m + 1) cap) (.slice xA r.n xc) (m + 1) r.n (fun j => if j = m then x else V j) X) := Lib.hid
              ⟨(hm3.o.same (hkeep _ (by omega))).set2 _, (hm3.q.same (hkeep _ (by omega))).same (set_heap _ (by dsimp only; omega)), hm3.b.keepB (fun b hb => by have h := hm3.bl.1 _ hb; dsimp only at h; exact (set_heap _ (by dsimp only; omega)).trans (hkeep b (by omega))), hm3.d.keepB (fun b hb => by have h := hm3.bl.2 _ hb; dsimp only at h; exact (set_heap _ (by dsimp only; omega)).trans (hkeep b (by omega))), hm3.bl, by
                rw [← rowC_put]
                exact owns_sm hown6 (fun g h1 h2 => set_heap _ (by dsimp only; omega)), owns_sm hm3.x (fun g' h1 h2 => (set_heap _ (by dsimp only; omega)).trans ((hgr6.block g' (by have := (hx3 g' h2).2; (first | omega | (simp only [World.size_alloc, World.size_drew]; omega) | (simp; done) | (simp; omega))) (fun e => by
                    rcases hne3 with h | h
                    · rw [h] at h2; cases h2
                    · exact h (h2.trans e))).trans (Below.heap_alloc _ _ _ (hx3 g' h2).2))), .inr (fun e => by
                    have e' : (Value.slice xA r.n xc).ownBlock = some g := e
                    have h2 := hx3 g e'
                    rcases hat6 with h | h
                    · rcases hne3 with h' | h'
                      · rw [h'] at e'; cases e'
                      · exact h' (e'.trans h.symm)
                    · omega), hm3.c.keep (fun i hi => (set_heap _ (by dsimp only; omega)).trans (hkeep i (by omega))), gb_cell (gb_own (gb_new hm3.g _) hgr6 (fun g hgg => by have := (hv1 g hgg).1; omega)) (by dsimp only; omega) _, by simp only [World.setCell, Array.size_modify]; omega, hml⟩
            have HV6 : Hid (∀ j, j < m + 1 → wgFit r.n X (if j = m then x else V j)) := Lib.hid (fun j hj => by
              by_cases e : j = m
              · rw [if_pos e]; exact hfit
              · rw [if_neg e]; exact HV.out j (by omega))
            clear hown6 hgr6 hat6 hlt6 hkeep hg3 hc3 hm3 s3 a3 b3 s6 a6 b6 c2 f2
            go_wp2_with fail
            go_roundw
            case rel => exact ⟨m + 1, _, _, by omega, by go_num, HM6, HV6⟩
            case measure => simp [intOf]; omega
        · obtain rfl : m = mm := by omega
          have hge2 : ¬ (m : Int) < (m : Int) := by omega
          obtain ⟨vA, vc, rfl, hov, hvc⟩ := OwnWg.of HM.out.v
          obtain ⟨xA', xc', he, hox, _⟩ := ownInt_T (X := X) HM.out.x
          injection he with e1 _ e2
          subst e1 e2
          obtain ⟨o0, o1, o2, -, -, -⟩ := HM.out.o
          obtain ⟨q0, q1, q2, f0, f1, f2⟩ := HM.out.q
          have HOV := Lib.hid hov
          have HOX := Lib.hid hox
          have hne1 : rb ≠ W.heap.size := by omega
          clear hov hox
          go_wp2_with fail
          refine name_post ?_
          intro w' hw
          have hk : ∀ i, i ≠ W.heap.size → w'.heap[i]? = wo.heap[i]? := fun i hi => by
            rw [hw]
            exact (set_heap _ (by exact hi)).trans ((set_heap _ (by exact hi)).trans (set_heap _ (by exact hi)))
          have hgf : W.grownBy w' (some cb) := by
            rw [hw]
            exact gb_cell (gb_cell (gb_cell HM.out.g (by dsimp only; omega) _) (by dsimp only; omega) _) (by dsimp only; omega) _
          have hres : w'.cell? ⟨W.heap.size, 0, none⟩ = some (.slice bA r.n bc) ∧ w'.cell? ⟨W.heap.size, 1, none⟩ = some (.slice dA r.d dc) ∧ w'.cell? ⟨W.heap.size, 2, none⟩ = some (.slice vA m vc) := by
            rw [hw]
            exact ⟨by simp [go_sem, q0], by simp [go_sem, q0, q1], by simp [go_sem, q0, q1, q2]⟩
          clear hw
          obtain ⟨s0, s1, s2⟩ := hres
          refine bodyPost_ret (v := .tuple #[rwV bA r.n bc dA r.d dc vA m vc, .slice xA r.n xc]) (by simp [results, Tryz.results53, go_sem, s0, s1, s2]) rfl ⟨{ r with m := m, V := V }, X, bA, dA, vA, xA, bc, dc, vc, xc, rfl, ⟨hrn, hrd, hmm.1, HGB.out, HKD.out, HX.out, HV.out⟩, (HM.out.b.keep (fun b h1 h2 => hk b (by omega))).low (by omega), (HM.out.d.keep (fun b h1 h2 => hk b (by omega))).low (by omega), (HOV.out.keep (fun b h1 h2 => hk b (by omega))).low (by omega), (HOX.out.keep (fun b h1 h2 => hk b (by omega))).low (by omega), ⟨hbc, hdc, hvc, hxc⟩, hgf, HM.out.c.keep (fun i hi => hk i (by omega))⟩
end Go.Proofs.YtnnikeolgknfoaaGreat
