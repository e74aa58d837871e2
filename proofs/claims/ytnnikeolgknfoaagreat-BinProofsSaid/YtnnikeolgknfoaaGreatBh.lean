/- desk.walk; the desk in memory. -/
import Derived.Test.YtnnikeolgknfoaaGreatBg
set_option linter.unusedSimpArgs false
set_option linter.unusedVariables false
namespace Go.Proofs.YtnnikeolgknfoaaGreat
open Go.RowKit Go.Shelf

theorem owns_low {w : World} {base base' : Nat} {e : TypeId} {size : Nat} {v : Value} {n : Nat} {xs : List Value} (hl : base' ≤ base) (h : w.ownsRow base e size v n xs) : w.ownsRow base' e size v n xs :=
  ⟨h.1, h.2.imp id (fun ⟨g, cap, cur, a, b, c, d⟩ => ⟨g, cap, cur, a, Nat.le_trans hl b, c, d⟩)⟩

set_option maxRecDepth 100000 in
set_option maxHeartbeats 4000000 in
/-- desk.walk -/
theorem walk_any (r : Rw) (hr : r.ok) (F : Nat → Nat → Fc) (B db : Nat) (bA dA vA : Option Addr) (bc dc vc t x : Nat) (ht : t ≤ r.n) (hx : x ≤ r.n) (l : List Fc) (hl : l.length ≤ 1000) (hw : Wk r F t x l) (W : World) (hf : FsAt W db F) (hd : DrAt W B db r bA bc dA dc vA vc) :
    Calls Tryz.prog 110 #[.pointer (some ⟨db, 0, none⟩), .int .i64 x, .int .i64 t] W fun e W' => ∃ A c, e = .returned (.slice A l.length c) ∧ W'.ownsRow W.heap.size 76 3 (.slice A l.length c) l.length (fcL l) ∧ Below W.heap.size W W' := by
  have HW := Lib.hid hw
  have HF := Lib.hid hf
  have HD := Lib.hid hd
  have HR := Lib.hid hr
  have hdl := hd.a.lt
  have hB := hd.r.lt
  clear hw hf hd hr
  go_enter Tryz.func110, Tryz.ntmps110
  go_upto_region 4 with fail
  refine wp_world (fun W1 => (W1.cell? ⟨W.heap.size, 0, none⟩ = some (.pointer (some ⟨db, 0, none⟩)) ∧ W1.cell? ⟨W.heap.size + 1, 0, none⟩ = some (.int .i64 t) ∧ W1.cell? ⟨W.heap.size + 1 + 1, 0, none⟩ = some (.slice none 0 0) ∧ W1.cell? ⟨W.heap.size + 1 + 1 + 1, 0, none⟩ = some (.func (.func 140) #[] #[.pointer (some ⟨W.heap.size + 1, 0, none⟩), .pointer (some ⟨W.heap.size, 0, none⟩), .pointer (some ⟨W.heap.size + 1 + 1, 0, none⟩), .pointer (some ⟨W.heap.size + 1 + 1 + 1, 0, none⟩)])) ∧ W1.frozen? ⟨W.heap.size + 1 + 1, 0, none⟩ = false ∧ Below W.heap.size W W1 ∧ W1.heap.size = W.heap.size + 4) ⟨(by (repeat' refine And.intro ?_ ?_) <;> (repeat (first | with_reducible assumption | (simp; done) | (with_reducible first | refine Kd ?_ | refine Kn ?_ | refine Kb (by assumption) ?_) | ((with_reducible first | refine Kw ?_ ?_ | refine Fw ?_) <;> first | with_reducible rfl | (simp; done)) | (with_reducible first | refine Ka _ ?_ | refine Ks _ (by first | exact Nat.le_refl _ | omega | (simp; done) | (simp; omega)) ?_ | refine Fd ?_ | refine Fn ?_ | refine Fb (by assumption) (by first | exact Nat.le_refl _ | omega | (simp; done) | (simp; omega)) ?_ | refine Fa _ (by first | exact Nat.le_refl _ | omega | (simp; done) | (simp; omega)) ?_ | refine Fs _ ?_)))), (by (repeat' refine And.intro ?_ ?_) <;> (repeat (first | with_reducible assumption | (simp; done) | (with_reducible first | refine Kd ?_ | refine Kn ?_ | refine Kb (by assumption) ?_) | ((with_reducible first | refine Kw ?_ ?_ | refine Fw ?_) <;> first | with_reducible rfl | (simp; done)) | (with_reducible first | refine Ka _ ?_ | refine Ks _ (by first | exact Nat.le_refl _ | omega | (simp; done) | (simp; omega)) ?_ | refine Fd ?_ | refine Fn ?_ | refine Fb (by assumption) (by first | exact Nat.le_refl _ | omega | (simp; done) | (simp; omega)) ?_ | refine Fa _ (by first | exact Nat.le_refl _ | omega | (simp; done) | (simp; omega)) ?_ | refine Fs _ ?_)))), (by repeat (first | (with_reducible first | exact Below.refl _ _ | assumption | refine Below.drew ?_) | ((with_reducible first | refine Lc ?_ ?_ _ | refine Ls ?_ ?_ _ | refine Lv (by assumption) ?_ ?_); · first | exact Nat.le_refl _ | omega | (dsimp only; omega) | (simp only [World.size_alloc, World.size_drew, World.heap_drewN]; omega) | (simp; omega)))), by simp⟩ ?_
  rintro w1 ⟨⟨c0, c1, c2, c3⟩, f2, hb1, hs1⟩
  have HB1 := Lib.hid hb1
  have H1 : Hid (WkAt w1 r F B db (W.heap.size + 1) W.heap.size (W.heap.size + 1 + 1) (W.heap.size + 1 + 1 + 1) (W.heap.size + 4) bA bc dA dc vA vc t (.slice none 0 0) []) := Lib.hid ⟨HF.out.same (hb1.block _ hdl), HD.out.later hb1, c1, c0, ⟨c2, f2⟩, c3, World.ownsRow_nil _ _ _ _, ⟨by omega, by omega, by omega, by omega, by omega⟩, ⟨by omega, by omega, by omega, by omega⟩, by omega, by omega⟩
  have hs1' : w1.heap.size ≤ W.heap.size + 4 := by omega
  clear hb1 hs1 c0 c1 c2 f2
  go_wp2_with fail
  refine (walk1_any r HR.out F B db (W.heap.size + 1) W.heap.size (W.heap.size + 1 + 1) (W.heap.size + 1 + 1 + 1) (W.heap.size + 4) bA dA vA bc dc vc t ht l x [] _ w1 hx HW.out (by simp; omega) H1.out).mono ?_
  rintro e w2 ⟨⟨u, rfl⟩, hk, v', hw2⟩
  obtain ⟨A, c, rfl, hof, hlc⟩ := ownFc_of hw2.own (by simp)
  have o2 := hw2.o.1
  have HO := Lib.hid (owns_low (show W.heap.size ≤ W.heap.size + 4 by omega) hw2.own)
  have HB2 : Hid (Below W.heap.size W w2) := Lib.hid (HB1.out.trans ⟨hk.os, hk.tape, hk.output, hk.size, fun i hi => hk.block i (by omega) (by omega)⟩)
  have hlen : ([] ++ l).length = l.length := rfl
  rw [hlen] at o2
  clear hk hw2 hof hlc c3 H1 HB1 hlen
  go_wp2_with fail
  go_ret
  exact ⟨A, c, rfl, HO.out, HB2.out⟩

/-- a desk's least numbers in memory -/
def LsAt (w : World) (db n : Nat) (L : Nat → Nat → Int) : Prop := ∀ x y, x ≤ n → y ≤ n → w.cell? ⟨db, 3 + x * 7 + y, none⟩ = some (.int .i64 (L x y))
theorem LsAt.same {w w' : World} {db n : Nat} {L : Nat → Nat → Int} (h : LsAt w db n L) (hs : w'.heap[db]? = w.heap[db]?) : LsAt w' db n L := fun x y hx hy => cell_same hs (h x y hx hy)
/-- a desk in memory -/
structure DkAt (w : World) (B db : Nat) (r : Rw) (S : Sk) (bA : Option Addr) (bc : Nat) (dA : Option Addr) (dc : Nat) (vA : Option Addr) (vc : Nat) (v : Value) : Prop where
  a : DrAt w B db r bA bc dA dc vA vc
  l : LsAt w db r.n S.L
  f : FsAt w db S.F
  rd : w.cell? ⟨db, 199, none⟩ = some v
  fz : ∀ i, w.frozen? ⟨db, i, none⟩ = false
theorem DkAt.later {w w' : World} {B db : Nat} {r : Rw} {S : Sk} {bA : Option Addr} {bc : Nat} {dA : Option Addr} {dc : Nat} {vA : Option Addr} {vc : Nat} {v : Value} (h : DkAt w B db r S bA bc dA dc vA vc v) (hb : Below w.heap.size w w') : DkAt w' B db r S bA bc dA dc vA vc v := by
  have hs := hb.block db h.a.a.lt
  exact ⟨h.a.later hb, h.l.same hs, h.f.same hs, cell_same hs h.rd, fun i => fro_same hs (h.fz i)⟩
theorem DkAt.lt {w : World} {B db : Nat} {r : Rw} {S : Sk} {bA : Option Addr} {bc : Nat} {dA : Option Addr} {dc : Nat} {vA : Option Addr} {vc : Nat} {v : Value} (h : DkAt w B db r S bA bc dA dc vA vc v) : db < w.heap.size := h.a.a.lt
/-- a number is written down -/
theorem DkAt.setL {w : World} {B db : Nat} {r : Rw} {S : Sk} {bA : Option Addr} {bc : Nat} {dA : Option Addr} {dc : Nat} {vA : Option Addr} {vc : Nat} {v : Value} (h : DkAt w B db r S bA bc dA dc vA vc v) (hB : B ≤ db) (h6 : r.n ≤ 6) {a b : Nat} (ha : a ≤ r.n) (hb : b ≤ r.n) (z : Int) : DkAt (w.setCell ⟨db, 3 + a * 7 + b, none⟩ (.int .i64 z)) B db r ⟨fun x y => if x = a ∧ y = b then z else S.L x y, S.F⟩ bA bc dA dc vA vc v := by
  have o : ∀ j u, j ≠ 3 + a * 7 + b → w.cell? ⟨db, j, none⟩ = some u → (w.setCell ⟨db, 3 + a * 7 + b, none⟩ (.int .i64 z)).cell? ⟨db, j, none⟩ = some u := fun j u hj h => by
    rw [World.cell?_setCell_other _ _ _ _ (by intro e2; injection e2 with _ e2 _; omega)]; exact h
  refine ⟨⟨⟨o 0 _ (by omega) h.a.a.c0, o 1 _ (by omega) h.a.a.c1, o 2 _ (by omega) h.a.a.c2⟩, h.a.r.later ((Below.refl _ _).setCell hB _)⟩, fun x y hx hy => ?_, fun x y hx hy => ?_, o 199 _ (by omega) h.rd, fun i => Fs _ (h.fz i)⟩
  · show _ = some (Value.int .i64 (if x = a ∧ y = b then z else S.L x y))
    by_cases e : x = a ∧ y = b
    · obtain ⟨rfl, rfl⟩ := e
      rw [if_pos ⟨rfl, rfl⟩]
      exact World.cell?_setCell_same' _ _ _ (by rw [h.l x y hx hy]; rfl)
    · rw [if_neg e]
      exact o _ _ (by omega) (h.l x y hx hy)
  · obtain ⟨h0, h1, h2⟩ := h.f x y hx hy
    exact ⟨o _ _ (by omega) h0, o _ _ (by omega) h1, o _ _ (by omega) h2⟩
/-- and the fact with which its walk begins -/
theorem DkAt.setF {w : World} {B db : Nat} {r : Rw} {S : Sk} {bA : Option Addr} {bc : Nat} {dA : Option Addr} {dc : Nat} {vA : Option Addr} {vc : Nat} {v : Value} (h : DkAt w B db r S bA bc dA dc vA vc v) (hB : B ≤ db) (h6 : r.n ≤ 6) {a b : Nat} (ha : a ≤ r.n) (hb : b ≤ r.n) (f : Fc) : DkAt (((w.setCell ⟨db, 52 + a * 21 + b * 3, none⟩ (.bool f.w)).setCell ⟨db, 52 + a * 21 + b * 3 + 1, none⟩ (.int .i64 f.i)).setCell ⟨db, 52 + a * 21 + b * 3 + 2, none⟩ (.bool f.m)) B db r ⟨S.L, fun x y => if x = a ∧ y = b then f else S.F x y⟩ bA bc dA dc vA vc v := by
  have o1 : ∀ (w : World) (p : Nat) (z : Value) j u, j ≠ p → w.cell? ⟨db, j, none⟩ = some u → (w.setCell ⟨db, p, none⟩ z).cell? ⟨db, j, none⟩ = some u := fun w p z j u hj h => by
    rw [World.cell?_setCell_other _ _ _ _ (by intro e2; injection e2 with _ e2 _; omega)]; exact h
  have o : ∀ j u, j ≠ 52 + a * 21 + b * 3 → j ≠ 52 + a * 21 + b * 3 + 1 → j ≠ 52 + a * 21 + b * 3 + 2 → w.cell? ⟨db, j, none⟩ = some u → (((w.setCell ⟨db, 52 + a * 21 + b * 3, none⟩ (.bool f.w)).setCell ⟨db, 52 + a * 21 + b * 3 + 1, none⟩ (.int .i64 f.i)).setCell ⟨db, 52 + a * 21 + b * 3 + 2, none⟩ (.bool f.m)).cell? ⟨db, j, none⟩ = some u := fun j u h1 h2 h3 h => o1 _ _ _ j u h3 (o1 _ _ _ j u h2 (o1 _ _ _ j u h1 h))
  refine ⟨⟨⟨o 0 _ (by omega) (by omega) (by omega) h.a.a.c0, o 1 _ (by omega) (by omega) (by omega) h.a.a.c1, o 2 _ (by omega) (by omega) (by omega) h.a.a.c2⟩, h.a.r.later ((((Below.refl _ _).setCell hB _).setCell hB _).setCell hB _)⟩, fun x y hx hy => o _ _ (by omega) (by omega) (by omega) (h.l x y hx hy), fun x y hx hy => ?_, o 199 _ (by omega) (by omega) (by omega) h.rd, fun i => Fs _ (Fs _ (Fs _ (h.fz i)))⟩
  obtain ⟨h0, h1, h2⟩ := h.f x y hx hy
  show _ = some (Value.bool (if x = a ∧ y = b then f else S.F x y).w) ∧ _ = some (Value.int .i64 (if x = a ∧ y = b then f else S.F x y).i) ∧ _ = some (Value.bool (if x = a ∧ y = b then f else S.F x y).m)
  by_cases e : x = a ∧ y = b
  · obtain ⟨rfl, rfl⟩ := e
    rw [if_pos ⟨rfl, rfl⟩]
    refine ⟨o1 _ _ _ _ _ (by omega) (o1 _ _ _ _ _ (by omega) (World.cell?_setCell_same' _ _ _ (by rw [h0]; rfl))), o1 _ _ _ _ _ (by omega) (World.cell?_setCell_same' _ _ _ (by rw [o1 _ _ _ _ _ (by omega) h1]; rfl)), World.cell?_setCell_same' _ _ _ (by rw [o1 _ _ _ _ _ (by omega) (o1 _ _ _ _ _ (by omega) h2)]; rfl)⟩
  · rw [if_neg e]
    exact ⟨o _ _ (by omega) (by omega) (by omega) h0, o _ _ (by omega) (by omega) (by omega) h1, o _ _ (by omega) (by omega) (by omega) h2⟩
end Go.Proofs.YtnnikeolgknfoaaGreat
