/- weighed: a weighing that agrees with contents. -/
import Derived.Test.YtnnikeolgknfoaaGreatE1
import Derived.Test.YtnnikeolgknfoaaGreatP1
set_option linter.unusedSimpArgs false
set_option linter.unusedVariables false
namespace Go.Proofs.YtnnikeolgknfoaaGreat
open Go.RowKit Go.Shelf

/-- a weighing that agrees with contents -/
structure wgFit (n : Nat) (X : Nat → Int) (x : Wg) : Prop where
  f : 0 ≤ x.f
  ft : x.f ≤ x.t
  t : x.t < n
  e : 0 ≤ x.e ∧ x.e ≤ 6
  p : 0 ≤ x.p ∧ x.p ≤ 3000
  s : x.p - x.e ≤ pre X (x.t.toNat + 1) - pre X x.f.toNat ∧ pre X (x.t.toNat + 1) - pre X x.f.toNat ≤ x.p + x.e
/-- a weighing's box that can be written -/
structure WxAt (w : World) (b : Nat) (x : Wg) : Prop where
  c0 : w.cell? ⟨b, 0, none⟩ = some (.int .i64 x.f)
  c1 : w.cell? ⟨b, 1, none⟩ = some (.int .i64 x.t)
  c2 : w.cell? ⟨b, 2, none⟩ = some (.int .i64 x.p)
  c3 : w.cell? ⟨b, 3, none⟩ = some (.int .i64 x.e)
  f0 : w.frozen? ⟨b, 0, none⟩ = false
  f1 : w.frozen? ⟨b, 1, none⟩ = false
  f2 : w.frozen? ⟨b, 2, none⟩ = false
  f3 : w.frozen? ⟨b, 3, none⟩ = false
theorem WxAt.same {w w' : World} {b : Nat} {x : Wg} (h : WxAt w b x) (hs : w'.heap[b]? = w.heap[b]?) : WxAt w' b x := ⟨cell_same hs h.c0, cell_same hs h.c1, cell_same hs h.c2, cell_same hs h.c3, fro_same hs h.f0, fro_same hs h.f1, fro_same hs h.f2, fro_same hs h.f3⟩
theorem WxAt.sett {w : World} {b : Nat} {x : Wg} (h : WxAt w b x) (t : Int) : WxAt (w.setCell ⟨b, 1, none⟩ (.int .i64 t)) b ⟨x.f, t, x.p, x.e⟩ :=
  ⟨by simp [go_sem, h.c0], by simp [go_sem, h.c1], by simp [go_sem, h.c2], by simp [go_sem, h.c3], Fs _ h.f0, Fs _ h.f1, Fs _ h.f2, Fs _ h.f3⟩
theorem WxAt.setp {w : World} {b : Nat} {x : Wg} (h : WxAt w b x) (p : Int) : WxAt (w.setCell ⟨b, 2, none⟩ (.int .i64 p)) b ⟨x.f, x.t, p, x.e⟩ :=
  ⟨by simp [go_sem, h.c0], by simp [go_sem, h.c1], by simp [go_sem, h.c2], by simp [go_sem, h.c3], Fs _ h.f0, Fs _ h.f1, Fs _ h.f2, Fs _ h.f3⟩
theorem IntRow.grown {w w' : World} {B cb n : Nat} {A : Option Addr} {X : Nat → Int} (h : IntRow w B A n X) (hg : w.grownBy w' (some cb)) (hB : B ≤ w.heap.size) (hne : ∀ a, A = some a → a.block ≠ cb) : IntRow w' B A n X := fun k hk => by
  obtain ⟨b, o, hA, hb, c⟩ := h k hk
  exact ⟨b, o, hA, hb, cell_same (hg.block b (by omega) (fun e => by injection e with e; exact hne _ hA (by rw [← e]))) c⟩
def WgPost (n : Nat) (X : Nat → Int) (B cb : Nat) (lA : Option Addr) (ln lc : Nat) (W : World) (e : Ending) (W' : World) : Prop :=
  ∃ x : Wg, e = .returned (wgV x) ∧ wgFit n X x ∧ W.grownBy W' (some cb) ∧ Chute W' B cb lA ln lc

set_option maxRecDepth 100000 in
set_option maxHeartbeats 8000000 in
theorem weighed_any (xA : Option Addr) (n xc : Nat) (X : Nat → Int) (hn : 1 ≤ n ∧ n ≤ 6) (hxc : n ≤ xc) (hX : ∀ k, k < n → 0 ≤ X k ∧ X k ≤ 400) (B cb : Nat) (lA : Option Addr) (ln lc : Nat) (hln : ln ≤ 9223372036854775807) (W : World) (hB : B ≤ W.heap.size) (hcb : cb < W.heap.size) (hc : Chute W B cb lA ln lc) (hx : IntRow W W.heap.size xA n X) (hne : ∀ a, xA = some a → a.block ≠ cb) :
    Calls Tryz.prog 124 #[.pointer (some ⟨cb, 0, none⟩), .slice xA n xc] W (WgPost n X B cb lA ln lc W) := by
  have HC := Lib.hid hc
  have HX := Lib.hid hx
  have HNE := Lib.hid hne
  have HXB := Lib.hid hX
  obtain ⟨b, o, hbA, hbl, -⟩ := hx 0 (by omega)
  clear hc hx hne hX
  go_enter Tryz.func124, Tryz.ntmps124
  go_upto_region 1 with fail
  refine wp_world (fun W1 => WxAt W1 W.heap.size ⟨0, 0, 0, 0⟩ ∧ Below W.heap.size W W1 ∧ W.heap.size + 1 ≤ W1.heap.size) ⟨⟨(by (repeat' refine And.intro ?_ ?_) <;> (repeat (first | with_reducible assumption | (simp; done) | (with_reducible first | refine Kd ?_ | refine Kn ?_ | refine Kb (by assumption) ?_) | ((with_reducible first | refine Kw ?_ ?_ | refine Fw ?_) <;> first | with_reducible rfl | (simp; done)) | (with_reducible first | refine Ka _ ?_ | refine Ks _ (by first | exact Nat.le_refl _ | omega | (simp; done) | (simp; omega)) ?_ | refine Fd ?_ | refine Fn ?_ | refine Fb (by assumption) (by first | exact Nat.le_refl _ | omega | (simp; done) | (simp; omega)) ?_ | refine Fa _ (by first | exact Nat.le_refl _ | omega | (simp; done) | (simp; omega)) ?_ | refine Fs _ ?_)))), (by (repeat' refine And.intro ?_ ?_) <;> (repeat (first | with_reducible assumption | (simp; done) | (with_reducible first | refine Kd ?_ | refine Kn ?_ | refine Kb (by assumption) ?_) | ((with_reducible first | refine Kw ?_ ?_ | refine Fw ?_) <;> first | with_reducible rfl | (simp; done)) | (with_reducible first | refine Ka _ ?_ | refine Ks _ (by first | exact Nat.le_refl _ | omega | (simp; done) | (simp; omega)) ?_ | refine Fd ?_ | refine Fn ?_ | refine Fb (by assumption) (by first | exact Nat.le_refl _ | omega | (simp; done) | (simp; omega)) ?_ | refine Fa _ (by first | exact Nat.le_refl _ | omega | (simp; done) | (simp; omega)) ?_ | refine Fs _ ?_)))), (by (repeat' refine And.intro ?_ ?_) <;> (repeat (first | with_reducible assumption | (simp; done) | (with_reducible first | refine Kd ?_ | refine Kn ?_ | refine Kb (by assumption) ?_) | ((with_reducible first | refine Kw ?_ ?_ | refine Fw ?_) <;> first | with_reducible rfl | (simp; done)) | (with_reducible first | refine Ka _ ?_ | refine Ks _ (by first | exact Nat.le_refl _ | omega | (simp; done) | (simp; omega)) ?_ | refine Fd ?_ | refine Fn ?_ | refine Fb (by assumption) (by first | exact Nat.le_refl _ | omega | (simp; done) | (simp; omega)) ?_ | refine Fa _ (by first | exact Nat.le_refl _ | omega | (simp; done) | (simp; omega)) ?_ | refine Fs _ ?_)))), (by (repeat' refine And.intro ?_ ?_) <;> (repeat (first | with_reducible assumption | (simp; done) | (with_reducible first | refine Kd ?_ | refine Kn ?_ | refine Kb (by assumption) ?_) | ((with_reducible first | refine Kw ?_ ?_ | refine Fw ?_) <;> first | with_reducible rfl | (simp; done)) | (with_reducible first | refine Ka _ ?_ | refine Ks _ (by first | exact Nat.le_refl _ | omega | (simp; done) | (simp; omega)) ?_ | refine Fd ?_ | refine Fn ?_ | refine Fb (by assumption) (by first | exact Nat.le_refl _ | omega | (simp; done) | (simp; omega)) ?_ | refine Fa _ (by first | exact Nat.le_refl _ | omega | (simp; done) | (simp; omega)) ?_ | refine Fs _ ?_)))), (by (repeat' refine And.intro ?_ ?_) <;> (repeat (first | with_reducible assumption | (simp; done) | (with_reducible first | refine Kd ?_ | refine Kn ?_ | refine Kb (by assumption) ?_) | ((with_reducible first | refine Kw ?_ ?_ | refine Fw ?_) <;> first | with_reducible rfl | (simp; done)) | (with_reducible first | refine Ka _ ?_ | refine Ks _ (by first | exact Nat.le_refl _ | omega | (simp; done) | (simp; omega)) ?_ | refine Fd ?_ | refine Fn ?_ | refine Fb (by assumption) (by first | exact Nat.le_refl _ | omega | (simp; done) | (simp; omega)) ?_ | refine Fa _ (by first | exact Nat.le_refl _ | omega | (simp; done) | (simp; omega)) ?_ | refine Fs _ ?_)))), (by (repeat' refine And.intro ?_ ?_) <;> (repeat (first | with_reducible assumption | (simp; done) | (with_reducible first | refine Kd ?_ | refine Kn ?_ | refine Kb (by assumption) ?_) | ((with_reducible first | refine Kw ?_ ?_ | refine Fw ?_) <;> first | with_reducible rfl | (simp; done)) | (with_reducible first | refine Ka _ ?_ | refine Ks _ (by first | exact Nat.le_refl _ | omega | (simp; done) | (simp; omega)) ?_ | refine Fd ?_ | refine Fn ?_ | refine Fb (by assumption) (by first | exact Nat.le_refl _ | omega | (simp; done) | (simp; omega)) ?_ | refine Fa _ (by first | exact Nat.le_refl _ | omega | (simp; done) | (simp; omega)) ?_ | refine Fs _ ?_)))), (by (repeat' refine And.intro ?_ ?_) <;> (repeat (first | with_reducible assumption | (simp; done) | (with_reducible first | refine Kd ?_ | refine Kn ?_ | refine Kb (by assumption) ?_) | ((with_reducible first | refine Kw ?_ ?_ | refine Fw ?_) <;> first | with_reducible rfl | (simp; done)) | (with_reducible first | refine Ka _ ?_ | refine Ks _ (by first | exact Nat.le_refl _ | omega | (simp; done) | (simp; omega)) ?_ | refine Fd ?_ | refine Fn ?_ | refine Fb (by assumption) (by first | exact Nat.le_refl _ | omega | (simp; done) | (simp; omega)) ?_ | refine Fa _ (by first | exact Nat.le_refl _ | omega | (simp; done) | (simp; omega)) ?_ | refine Fs _ ?_)))), (by (repeat' refine And.intro ?_ ?_) <;> (repeat (first | with_reducible assumption | (simp; done) | (with_reducible first | refine Kd ?_ | refine Kn ?_ | refine Kb (by assumption) ?_) | ((with_reducible first | refine Kw ?_ ?_ | refine Fw ?_) <;> first | with_reducible rfl | (simp; done)) | (with_reducible first | refine Ka _ ?_ | refine Ks _ (by first | exact Nat.le_refl _ | omega | (simp; done) | (simp; omega)) ?_ | refine Fd ?_ | refine Fn ?_ | refine Fb (by assumption) (by first | exact Nat.le_refl _ | omega | (simp; done) | (simp; omega)) ?_ | refine Fa _ (by first | exact Nat.le_refl _ | omega | (simp; done) | (simp; omega)) ?_ | refine Fs _ ?_))))⟩, (by repeat (first | (with_reducible first | exact Below.refl _ _ | assumption | refine Below.drew ?_) | ((with_reducible first | refine Lc ?_ ?_ _ | refine Ls ?_ ?_ _ | refine Lv (by assumption) ?_ ?_); · first | exact Nat.le_refl _ | omega | (dsimp only; omega) | (simp only [World.size_alloc, World.size_drew, World.heap_drewN]; omega) | (simp; omega)))), by simp⟩ ?_
  rintro w1 ⟨hr1, hb1, hs1⟩
  have HR1 := Lib.hid hr1
  have HG1 := Lib.hid (gb_of_below cb hb1)
  have HC1 := Lib.hid (HC.out.later hb1)
  clear hr1 hb1 HC
  have hn0 : ¬ (n : Int) < 2 ∨ (n : Int) < 2 := by omega
  go_wp2_with fail
  refine (pull_any B cb lA ln lc n (by omega) hln _ HC1.out).mono ?_
  rintro e w2 ⟨f, rfl, hf0, hf1, hg2, hc2⟩
  obtain ⟨f, rfl⟩ := Int.eq_ofNat_of_zero_le hf0
  have hfn : f < n := by omega
  have HG2 := Lib.hid (gb_trans HG1.out hg2)
  have HR2 := Lib.hid (HR1.out.same (hg2.block _ (by omega) (fun e => by injection e with e; omega)))
  have HC2 := Lib.hid hc2
  have hs2 := hg2.size
  clear hg2 hc2 HG1 HR1 HC1 hf0 hf1 hn0
  go_wp2_with fail
  refine (pull_any B cb lA ln lc 7 (by omega) hln _ HC2.out).mono ?_
  rintro e w3 ⟨er, rfl, he0, he1, hg3, hc3⟩
  have her : 0 ≤ er ∧ er ≤ 6 := by omega
  have HG3 := Lib.hid (gb_trans HG2.out hg3)
  have HR3 := Lib.hid (HR2.out.same (hg3.block _ (by omega) (fun e => by injection e with e; omega)))
  have HC3 := Lib.hid hc3
  have hs3 := hg3.size
  clear hg3 hc3 HG2 HR2 HC2 he0 he1
  go_upto_region 2 with fail
  refine wp_world (fun W4 => WxAt W4 w3.heap.size ⟨f, 0, 0, er⟩ ∧ Below w3.heap.size w3 W4 ∧ w3.heap.size + 1 ≤ W4.heap.size) ⟨⟨(by (repeat' refine And.intro ?_ ?_) <;> (repeat (first | with_reducible assumption | (simp; done) | (with_reducible first | refine Kd ?_ | refine Kn ?_ | refine Kb (by assumption) ?_) | ((with_reducible first | refine Kw ?_ ?_ | refine Fw ?_) <;> first | with_reducible rfl | (simp; done)) | (with_reducible first | refine Ka _ ?_ | refine Ks _ (by first | exact Nat.le_refl _ | omega | (simp; done) | (simp; omega)) ?_ | refine Fd ?_ | refine Fn ?_ | refine Fb (by assumption) (by first | exact Nat.le_refl _ | omega | (simp; done) | (simp; omega)) ?_ | refine Fa _ (by first | exact Nat.le_refl _ | omega | (simp; done) | (simp; omega)) ?_ | refine Fs _ ?_)))), (by (repeat' refine And.intro ?_ ?_) <;> (repeat (first | with_reducible assumption | (simp; done) | (with_reducible first | refine Kd ?_ | refine Kn ?_ | refine Kb (by assumption) ?_) | ((with_reducible first | refine Kw ?_ ?_ | refine Fw ?_) <;> first | with_reducible rfl | (simp; done)) | (with_reducible first | refine Ka _ ?_ | refine Ks _ (by first | exact Nat.le_refl _ | omega | (simp; done) | (simp; omega)) ?_ | refine Fd ?_ | refine Fn ?_ | refine Fb (by assumption) (by first | exact Nat.le_refl _ | omega | (simp; done) | (simp; omega)) ?_ | refine Fa _ (by first | exact Nat.le_refl _ | omega | (simp; done) | (simp; omega)) ?_ | refine Fs _ ?_)))), (by (repeat' refine And.intro ?_ ?_) <;> (repeat (first | with_reducible assumption | (simp; done) | (with_reducible first | refine Kd ?_ | refine Kn ?_ | refine Kb (by assumption) ?_) | ((with_reducible first | refine Kw ?_ ?_ | refine Fw ?_) <;> first | with_reducible rfl | (simp; done)) | (with_reducible first | refine Ka _ ?_ | refine Ks _ (by first | exact Nat.le_refl _ | omega | (simp; done) | (simp; omega)) ?_ | refine Fd ?_ | refine Fn ?_ | refine Fb (by assumption) (by first | exact Nat.le_refl _ | omega | (simp; done) | (simp; omega)) ?_ | refine Fa _ (by first | exact Nat.le_refl _ | omega | (simp; done) | (simp; omega)) ?_ | refine Fs _ ?_)))), (by (repeat' refine And.intro ?_ ?_) <;> (repeat (first | with_reducible assumption | (simp; done) | (with_reducible first | refine Kd ?_ | refine Kn ?_ | refine Kb (by assumption) ?_) | ((with_reducible first | refine Kw ?_ ?_ | refine Fw ?_) <;> first | with_reducible rfl | (simp; done)) | (with_reducible first | refine Ka _ ?_ | refine Ks _ (by first | exact Nat.le_refl _ | omega | (simp; done) | (simp; omega)) ?_ | refine Fd ?_ | refine Fn ?_ | refine Fb (by assumption) (by first | exact Nat.le_refl _ | omega | (simp; done) | (simp; omega)) ?_ | refine Fa _ (by first | exact Nat.le_refl _ | omega | (simp; done) | (simp; omega)) ?_ | refine Fs _ ?_)))), (by (repeat' refine And.intro ?_ ?_) <;> (repeat (first | with_reducible assumption | (simp; done) | (with_reducible first | refine Kd ?_ | refine Kn ?_ | refine Kb (by assumption) ?_) | ((with_reducible first | refine Kw ?_ ?_ | refine Fw ?_) <;> first | with_reducible rfl | (simp; done)) | (with_reducible first | refine Ka _ ?_ | refine Ks _ (by first | exact Nat.le_refl _ | omega | (simp; done) | (simp; omega)) ?_ | refine Fd ?_ | refine Fn ?_ | refine Fb (by assumption) (by first | exact Nat.le_refl _ | omega | (simp; done) | (simp; omega)) ?_ | refine Fa _ (by first | exact Nat.le_refl _ | omega | (simp; done) | (simp; omega)) ?_ | refine Fs _ ?_)))), (by (repeat' refine And.intro ?_ ?_) <;> (repeat (first | with_reducible assumption | (simp; done) | (with_reducible first | refine Kd ?_ | refine Kn ?_ | refine Kb (by assumption) ?_) | ((with_reducible first | refine Kw ?_ ?_ | refine Fw ?_) <;> first | with_reducible rfl | (simp; done)) | (with_reducible first | refine Ka _ ?_ | refine Ks _ (by first | exact Nat.le_refl _ | omega | (simp; done) | (simp; omega)) ?_ | refine Fd ?_ | refine Fn ?_ | refine Fb (by assumption) (by first | exact Nat.le_refl _ | omega | (simp; done) | (simp; omega)) ?_ | refine Fa _ (by first | exact Nat.le_refl _ | omega | (simp; done) | (simp; omega)) ?_ | refine Fs _ ?_)))), (by (repeat' refine And.intro ?_ ?_) <;> (repeat (first | with_reducible assumption | (simp; done) | (with_reducible first | refine Kd ?_ | refine Kn ?_ | refine Kb (by assumption) ?_) | ((with_reducible first | refine Kw ?_ ?_ | refine Fw ?_) <;> first | with_reducible rfl | (simp; done)) | (with_reducible first | refine Ka _ ?_ | refine Ks _ (by first | exact Nat.le_refl _ | omega | (simp; done) | (simp; omega)) ?_ | refine Fd ?_ | refine Fn ?_ | refine Fb (by assumption) (by first | exact Nat.le_refl _ | omega | (simp; done) | (simp; omega)) ?_ | refine Fa _ (by first | exact Nat.le_refl _ | omega | (simp; done) | (simp; omega)) ?_ | refine Fs _ ?_)))), (by (repeat' refine And.intro ?_ ?_) <;> (repeat (first | with_reducible assumption | (simp; done) | (with_reducible first | refine Kd ?_ | refine Kn ?_ | refine Kb (by assumption) ?_) | ((with_reducible first | refine Kw ?_ ?_ | refine Fw ?_) <;> first | with_reducible rfl | (simp; done)) | (with_reducible first | refine Ka _ ?_ | refine Ks _ (by first | exact Nat.le_refl _ | omega | (simp; done) | (simp; omega)) ?_ | refine Fd ?_ | refine Fn ?_ | refine Fb (by assumption) (by first | exact Nat.le_refl _ | omega | (simp; done) | (simp; omega)) ?_ | refine Fa _ (by first | exact Nat.le_refl _ | omega | (simp; done) | (simp; omega)) ?_ | refine Fs _ ?_))))⟩, (by repeat (first | (with_reducible first | exact Below.refl _ _ | assumption | refine Below.drew ?_) | ((with_reducible first | refine Lc ?_ ?_ _ | refine Ls ?_ ?_ _ | refine Lv (by assumption) ?_ ?_); · first | exact Nat.le_refl _ | omega | (dsimp only; omega) | (simp only [World.size_alloc, World.size_drew, World.heap_drewN]; omega) | (simp; omega)))), by simp⟩ ?_
  rintro w4 ⟨hx4, hb4, hs4⟩
  have HW4 := Lib.hid hx4
  have HG4 := Lib.hid (gb_trans HG3.out (gb_of_below cb hb4))
  have HR4 := Lib.hid (HR3.out.same (hb4.block _ (by omega)))
  have HC4 := Lib.hid (HC3.out.later hb4)
  have c0 := hx4.c0
  clear hx4 hb4 HG3 HR3 HC3
  have en : IntKind.i64.wrap ((n : Int) - 1) = (n : Int) - 1 := IntWalk.i64_in _ (by omega)
  go_wp2_with fail
  refine (between_any B cb lA ln lc f ((n : Int) - 1) (by omega) (by omega) (by omega) hln _ HC4.out).mono ?_
  rintro e w5 ⟨t, rfl, ht0, ht1, hg5, hc5⟩
  obtain ⟨t, rfl⟩ := Int.eq_ofNat_of_zero_le (show 0 ≤ t by omega)
  obtain ⟨L, rfl⟩ : ∃ L, t = f + L := ⟨t - f, by omega⟩
  have hfl : f + L < n := by omega
  have hw5 := HW4.out.same (hg5.block _ (by omega) (fun e => by injection e with e; omega))
  have HW5 := Lib.hid (hw5.sett ((f + L : Nat) : Int))
  have HC5 := Lib.hid (hc5.keep (w' := w5.setCell ⟨w3.heap.size, 1, none⟩ (.int .i64 ((f + L : Nat) : Int))) (fun i hi => set_heap _ (by dsimp only; omega)))
  have HG5 := Lib.hid (gb_cell (gb_trans HG4.out hg5) (a := ⟨w3.heap.size, 1, none⟩) (by dsimp only; omega) (.int .i64 ((f + L : Nat) : Int)))
  have HR5 := Lib.hid ((HR4.out.same (hg5.block _ (by omega) (fun e => by injection e with e; omega))).same (w' := w5.setCell ⟨w3.heap.size, 1, none⟩ (.int .i64 ((f + L : Nat) : Int))) (set_heap _ (by dsimp only; omega)))
  have hs5 := hg5.size
  obtain ⟨d0, d1, d2, d3, g0, g1, g2, g3⟩ := hw5
  clear hg5 hc5 HW4 HG4 HR4 HC4 c0 en ht0 ht1
  go_upto_region 3 with fail
  refine wp_world (fun W6 => WxAt W6 w3.heap.size ⟨f, (f + L : Nat), 0, er⟩ ∧ Chute W6 B cb lA ln lc ∧ W.grownBy W6 (some cb) ∧ WxAt W6 W.heap.size ⟨0, 0, 0, 0⟩ ∧ w3.heap.size + 1 ≤ W6.heap.size) ⟨HW5.out, HC5.out, HG5.out, HR5.out, by simp only [World.setCell, Array.size_modify]; omega⟩ ?_
  rintro w6 ⟨hw6, hc6, hg6, hr6, hs6⟩
  have HW6 := Lib.hid hw6
  have HC6 := Lib.hid hc6
  have HG6 := Lib.hid hg6
  have HR6 := Lib.hid hr6
  have HX6 := Lib.hid (HX.out.grown hg6 (Nat.le_refl _) HNE.out)
  have e0 := hw6.c0
  have e1 := hw6.c1
  dsimp only at e0 e1
  clear hw6 hc6 hg6 hr6 HW5 HC5 HG5 HR5 d0 d1 d2 d3 g0 g1 g2 g3
  subst hbA
  have et : IntKind.i64.wrap (((f + L : Nat) : Int) + 1) = ((f + L + 1 : Nat) : Int) := IntWalk.i64_in _ (by omega)
  have hlen : f + L + 1 - f = L + 1 := by omega
  have HBD : Hid (∀ k, k ≤ L + 1 → 0 ≤ sumN (fun j => X (f + j)) k ∧ sumN (fun j => X (f + j)) k ≤ 400 * (k : Int)) := Lib.hid (fun k hk => sumN_bd2 (fun j => X (f + j)) k 400 (fun j hj => HXB.out (f + j) (by omega)))
  go_upto_region 5 with fail
  clear e0 e1
  go_loopw [6, 32] (fun s i wr => ∃ k : Nat, k ≤ L + 1 ∧ i = .int .i64 k ∧ s = .int .i64 (sumN (fun j => X (f + j)) k) ∧ wr = w6) (fun _ i _ => L + 1 - (intOf i).toNat)
  case atStart => exact ⟨0, by omega, rfl, rfl, rfl⟩
  case round =>
    obtain ⟨k, hk, rfl, rfl, rfl⟩ := hrel
    by_cases hlt : k < L + 1
    · have hk0 : (0 : Int) ≤ (k : Int) := by omega
      have hkn : (k : Int) < ((L + 1 : Nat) : Int) := by omega
      obtain ⟨b', o', hA, _, c0⟩ := HX6.out (f + k) (by omega)
      injection hA with hA
      injection hA with hA1 hA2
      subst hA1 hA2
      rw [← Nat.add_assoc] at c0
      have hb1 := HBD.out (k + 1) (by omega)
      have ew : IntKind.i64.wrap (sumN (fun j => X (f + j)) k + X (f + k)) = sumN (fun j => X (f + j)) (k + 1) := IntWalk.i64_in _ (by
        have : sumN (fun j => X (f + j)) (k + 1) = sumN (fun j => X (f + j)) k + X (f + k) := rfl
        omega)
      clear hb1
      go_wp2_with fail
      go_roundw
      case rel => exact ⟨k + 1, by omega, by go_num, rfl, trivial⟩
      case measure => simp [intOf]; omega
    · obtain rfl : k = L + 1 := by omega
      have hge : ¬ ((L + 1 : Nat) : Int) < ((L + 1 : Nat) : Int) := by omega
      have HS : Hid (pre X (f + L + 1) - pre X f = sumN (fun j => X (f + j)) (L + 1)) := Lib.hid (pre_add X f (L + 1))
      have hsb := HBD.out (L + 1) (Nat.le_refl _)
      obtain ⟨s, hs⟩ : ∃ s, s = sumN (fun j => X (f + j)) (L + 1) := ⟨_, rfl⟩
      rw [← hs] at hsb HS ⊢
      have hsb2 : 0 ≤ s ∧ s ≤ 2400 := by omega
      have en : IntKind.i64.wrap (-er) = -er := IntWalk.i64_in _ (by omega)
      have e3 := HW6.out.c3
      dsimp only at e3
      clear hs hsb
      obtain ⟨wo, rfl⟩ : ∃ wo, wo = wr := ⟨_, rfl⟩
      go_wp2_with fail
      refine (between_any B cb lA ln lc (-er) er (by omega) (by omega) (by omega) hln _ HC6.out).mono ?_
      rintro e w7 ⟨δ, rfl, hd0, hd1, hg7, hc7⟩
      have hdd : -er ≤ δ ∧ δ ≤ er := by omega
      have hw7 := HW6.out.same (hg7.block _ (by omega) (fun e => by injection e with e; omega))
      have hr7 := HR6.out.same (hg7.block _ (by omega) (fun e => by injection e with e; omega))
      have HG7 := Lib.hid (gb_trans HG6.out hg7)
      have HC7 := Lib.hid hc7
      have es : IntKind.i64.wrap (s + δ) = s + δ := IntWalk.i64_in _ (by omega)
      obtain ⟨p, hp⟩ : ∃ p, p = max 0 (s + δ) := ⟨_, rfl⟩
      have hpm : max 0 (s + δ) = p := hp.symm
      have HF : Hid (wgFit n X ⟨f, (f + L : Nat), p, er⟩) := Lib.hid ⟨by dsimp only; omega, by dsimp only; omega, by dsimp only; omega, her, by dsimp only; omega, by
        have h := HS.out
        dsimp only
        rw [Int.toNat_natCast, Int.toNat_natCast, h]
        omega⟩
      obtain ⟨c0, c1, c2, c3, f0, f1, f2, f3⟩ := hw7
      obtain ⟨r0, r1, r2, r3, q0, q1, q2, q3⟩ := hr7
      have hs7 := hg7.size
      clear hg7 hc7 hd0 hd1 hp e3 HW6 HR6 HG6 HC6
      dsimp only at c0 c1 c2 c3 r0 r1 r2 r3
      have hne3 : w3.heap.size ≠ W.heap.size := by omega
      go_wp2_with fail
      refine name_post ?_
      intro w' hw
      have hgf : W.grownBy w' (some cb) := by
        rw [hw]
        exact gb_cell (gb_cell (gb_cell (gb_cell (gb_cell HG7.out (by dsimp only; omega) _) (by dsimp only; omega) _) (by dsimp only; omega) _) (by dsimp only; omega) _) (by dsimp only; omega) _
      have hcf : Chute w' B cb lA ln lc := HC7.out.keep (fun i hi => by
        rw [hw]
        exact (set_heap _ (by dsimp only; omega)).trans ((set_heap _ (by dsimp only; omega)).trans ((set_heap _ (by dsimp only; omega)).trans ((set_heap _ (by dsimp only; omega)).trans (set_heap _ (by dsimp only; omega))))))
      have hres : w'.cell? ⟨W.heap.size, 0, none⟩ = some (.int .i64 f) ∧ w'.cell? ⟨W.heap.size, 1, none⟩ = some (.int .i64 (f + L : Nat)) ∧ w'.cell? ⟨W.heap.size, 2, none⟩ = some (.int .i64 p) ∧ w'.cell? ⟨W.heap.size, 3, none⟩ = some (.int .i64 er) := by
        rw [hw]
        exact ⟨by simp [go_sem, r0, hne3], by simp [go_sem, r0, r1, hne3], by simp [go_sem, r0, r1, r2, hne3], by simp [go_sem, r0, r1, r2, r3, hne3]⟩
      clear hw
      obtain ⟨t0, t1, t2, t3⟩ := hres
      exact bodyPost_ret (v := wgV ⟨f, (f + L : Nat), p, er⟩) (by simp [results, Tryz.results124, go_sem, t0, t1, t2, t3]) rfl ⟨_, rfl, HF.out, hgf, hcf⟩
end Go.Proofs.YtnnikeolgknfoaaGreat
