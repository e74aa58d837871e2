/- The reference: Fits of contents that fit, Holds; bin.Reach with an error. -/
import Derived.Test.YtnnikeolgknfoaaGreatBc
import Derived.Test.YtnnikeolgknfoaaGreatBr
import Derived.Test.YtnnikeolgknfoaaGreatP1
import Derived.Test.YtnnikeolgknfoaaGreatBi
import Derived.Test.YtnnikeolgknfoaaGreatBj
import Derived.Test.YtnnikeolgknfoaaGreatBl
import Derived.Test.YtnnikeolgknfoaaGreatBn
import Derived.Test.YtnnikeolgknfoaaGreatBs
import Derived.Test.YtnnikeolgknfoaaGreatC5
import Derived.Test.YtnnikeolgknfoaaGreatSxm
set_option linter.unusedSimpArgs false
set_option linter.unusedVariables false
namespace Go.Proofs.YtnnikeolgknfoaaGreat
open Go.RowKit Go.Shelf

theorem introw_cut {w : World} {B n xb xo : Nat} {X : Nat → Int} (h : IntRow w B (some ⟨xb, xo, none⟩) n X) {a L : Nat} (hl : a + L ≤ n) : IntRow w B (some ⟨xb, xo + a, none⟩) L (fun j => X (a + j)) := fun k hk => by
  obtain ⟨b, o, hA, hb, c⟩ := h (a + k) (by omega)
  injection hA with hA
  injection hA with h1 h2
  subst h1 h2
  exact ⟨xb, xo + a, rfl, hb, by rw [Nat.add_assoc]; exact c⟩
theorem sumN_bdm {X : Nat → Int} {c : Int} (hc : 0 ≤ c) : ∀ k : Nat, (∀ j, j < k → -c ≤ X j ∧ X j ≤ c) → -(c * k) ≤ sumN X k ∧ sumN X k ≤ c * k
  | 0, _ => by simp [sumN]
  | k + 1, h => by
    have ih := sumN_bdm hc k (fun j hj => h j (by omega))
    have := h k (by omega)
    show -(c * ((k + 1 : Nat) : Int)) ≤ sumN X k + X k ∧ sumN X k + X k ≤ c * ((k + 1 : Nat) : Int)
    rw [Int.natCast_add, Int.mul_add]
    simp
    omega

set_option maxRecDepth 100000 in
set_option maxHeartbeats 2000000 in
theorem so_any (r : Rw) (hr : r.ok) (f : Fc) (hf : r.has f) (X : Nat → Int) (hX : ∀ k, k < r.n → -100000 ≤ X k ∧ X k ≤ 100000) (xA : Option Addr) (xc : Nat) (hxc : r.n ≤ xc) (B db : Nat) (bA dA vA : Option Addr) (bc dc vc : Nat) (W : World) (hd : DrAt W B db r bA bc dA dc vA vc) (hx : IntRow W W.heap.size xA r.n X) :
    Calls Tryz.prog 150 #[.pointer (some ⟨db, 0, none⟩), fcV f, .slice xA r.n xc] W fun e W' => e = .returned (.bool (decide (pre X (r.b f) - pre X (r.a f) ≤ r.num f))) ∧ Below W.heap.size W W' := by
  have hbd := Rw.ab_bd hr hf
  have hn1 := hr.n1
  have hn6 := hr.n6
  obtain ⟨xb, xo, hxA, -, -⟩ := hx 0 (by omega)
  have HD := Lib.hid hd
  have HR := Lib.hid hr
  have HF := Lib.hid hf
  have HX := Lib.hid hX
  have hld : ldV r f = .tuple #[.int .i64 (r.a f : Nat), .int .i64 (r.b f : Nat), .int .i64 (r.num f)] := by
    unfold ldV
    rw [← hbd.2.2.2.2.2.1, ← hbd.2.2.2.2.2.2]
  have HLD := Lib.hid hld
  obtain ⟨a, ha⟩ : ∃ x, x = r.a f := ⟨_, rfl⟩
  obtain ⟨b, hb⟩ : ∃ x, x = r.b f := ⟨_, rfl⟩
  obtain ⟨n, hn⟩ : ∃ x, x = r.num f := ⟨_, rfl⟩
  rw [← ha, ← hb, ← hn] at HLD ⊢
  rw [← ha, ← hb] at hbd
  obtain ⟨han, hbn, hne, hn3, hn4, -, -⟩ := hbd
  rw [← hn] at hn3 hn4
  subst hxA
  have HI := Lib.hid hx
  clear hd hr hf hX hx hld ha hb hn
  go_enter Tryz.func150, Tryz.ntmps150
  go_upto_region 1 with fail
  refine wp_world (fun W1 => (W1.cell? ⟨W.heap.size, 0, none⟩ = some (.bool f.w) ∧ W1.cell? ⟨W.heap.size, 1, none⟩ = some (.int .i64 f.i) ∧ W1.cell? ⟨W.heap.size, 2, none⟩ = some (.bool f.m)) ∧ Below W.heap.size W W1 ∧ W.heap.size + 1 ≤ W1.heap.size) ⟨⟨(by (repeat' refine And.intro ?_ ?_) <;> (repeat (first | with_reducible assumption | (simp; done) | (with_reducible first | refine Kd ?_ | refine Kn ?_ | refine Kb (by assumption) ?_) | ((with_reducible first | refine Kw ?_ ?_ | refine Fw ?_) <;> first | with_reducible rfl | (simp; done)) | (with_reducible first | refine Ka _ ?_ | refine Ks _ (by first | exact Nat.le_refl _ | omega | (simp; done) | (simp; omega)) ?_ | refine Fd ?_ | refine Fn ?_ | refine Fb (by assumption) (by first | exact Nat.le_refl _ | omega | (simp; done) | (simp; omega)) ?_ | refine Fa _ (by first | exact Nat.le_refl _ | omega | (simp; done) | (simp; omega)) ?_ | refine Fs _ ?_)))), (by (repeat' refine And.intro ?_ ?_) <;> (repeat (first | with_reducible assumption | (simp; done) | (with_reducible first | refine Kd ?_ | refine Kn ?_ | refine Kb (by assumption) ?_) | ((with_reducible first | refine Kw ?_ ?_ | refine Fw ?_) <;> first | with_reducible rfl | (simp; done)) | (with_reducible first | refine Ka _ ?_ | refine Ks _ (by first | exact Nat.le_refl _ | omega | (simp; done) | (simp; omega)) ?_ | refine Fd ?_ | refine Fn ?_ | refine Fb (by assumption) (by first | exact Nat.le_refl _ | omega | (simp; done) | (simp; omega)) ?_ | refine Fa _ (by first | exact Nat.le_refl _ | omega | (simp; done) | (simp; omega)) ?_ | refine Fs _ ?_)))), (by (repeat' refine And.intro ?_ ?_) <;> (repeat (first | with_reducible assumption | (simp; done) | (with_reducible first | refine Kd ?_ | refine Kn ?_ | refine Kb (by assumption) ?_) | ((with_reducible first | refine Kw ?_ ?_ | refine Fw ?_) <;> first | with_reducible rfl | (simp; done)) | (with_reducible first | refine Ka _ ?_ | refine Ks _ (by first | exact Nat.le_refl _ | omega | (simp; done) | (simp; omega)) ?_ | refine Fd ?_ | refine Fn ?_ | refine Fb (by assumption) (by first | exact Nat.le_refl _ | omega | (simp; done) | (simp; omega)) ?_ | refine Fa _ (by first | exact Nat.le_refl _ | omega | (simp; done) | (simp; omega)) ?_ | refine Fs _ ?_))))⟩, (by repeat (first | (with_reducible first | exact Below.refl _ _ | assumption | refine Below.drew ?_) | ((with_reducible first | refine Lc ?_ ?_ _ | refine Ls ?_ ?_ _ | refine Lv (by assumption) ?_ ?_); · first | exact Nat.le_refl _ | omega | (dsimp only; omega) | (simp only [World.size_alloc, World.size_drew, World.heap_drewN]; omega) | (simp; omega)))), by simp⟩ ?_
  rintro w1 ⟨⟨c0, c1, c2⟩, hb1, hs1⟩
  have HB1 := Lib.hid hb1
  have HD1 := Lib.hid (HD.out.later hb1)
  have HI1 := Lib.hid ((HI.out.below hb1).mono hb1.size)
  have hs1' := hb1.size
  clear hb1
  go_wp2_with fail
  refine (leads_any r HR.out f HF.out B db bA dA vA bc dc vc _ HD1.out).mono ?_
  rintro e w2 ⟨rfl, hb2⟩
  rw [HLD.out]
  have HB2 := Lib.hid (HB1.out.trans (hb2.mono hs1'))
  have HI2 := Lib.hid ((HI1.out.below hb2).mono hb2.size)
  clear hb2 c0 c1 c2 HB1 HI1 HD1 HD
  rcases Nat.lt_or_ge a b with hab | hab
  · obtain ⟨L, rfl⟩ : ∃ L, b = a + L := ⟨b - a, by omega⟩
    have hng : ¬ ((a + L : Nat) : Int) < (a : Int) := by omega
    have hlen : a + L - a = L := by omega
    have ha0 : (0 : Int) ≤ (a : Int) := by omega
    have hal : (a : Int) ≤ ((a + L : Nat) : Int) := by omega
    have hac : ((a + L : Nat) : Int) ≤ (xc : Int) := by omega
    have hL := introw_cut HI2.out (a := a) (L := L) (by omega)
    have HL := Lib.hid hL
    have hsum := pre_add X a L
    have HSU := Lib.hid hsum
    have hbx : ∀ j, j < L → -1000000 ≤ X (a + j) ∧ X (a + j) ≤ 1000000 := fun j hj => by have := HX.out (a + j) (by omega); omega
    have HBX := Lib.hid hbx
    clear hL hsum hbx
    go_wp2_with fail
    refine (sum_any (some ⟨xb, xo + a, none⟩) L (xc - a) (fun j => X (a + j)) _ HL.out (by omega) HBX.out).mono ?_
    rintro e w3 ⟨rfl, rfl⟩
    rw [← HSU.out]
    go_wp2_with fail
    go_ret
    exact ⟨rfl, HB2.out⟩
  · obtain ⟨L, rfl⟩ : ∃ L, a = b + L := ⟨a - b, by omega⟩
    have hng : (b : Int) < ((b + L : Nat) : Int) := by omega
    have hlen : b + L - b = L := by omega
    have ha0 : (0 : Int) ≤ (b : Int) := by omega
    have hal : (b : Int) ≤ ((b + L : Nat) : Int) := by omega
    have hac : ((b + L : Nat) : Int) ≤ (xc : Int) := by omega
    have HL := Lib.hid (introw_cut HI2.out (a := b) (L := L) (by omega))
    have HSU := Lib.hid (pre_add X b L)
    have HBX := Lib.hid (show ∀ j, j < L → -1000000 ≤ X (b + j) ∧ X (b + j) ≤ 1000000 from fun j hj => by have := HX.out (b + j) (by omega); omega)
    have hsb := sumN_bdm (X := fun j => X (b + j)) (c := 100000) (by omega) L (fun j hj => HX.out (b + j) (by omega))
    obtain ⟨S, hS⟩ : ∃ S, S = sumN (fun j => X (b + j)) L := ⟨_, rfl⟩
    rw [← hS] at hsb HSU
    have HSS := Lib.hid hS
    have eneg : IntKind.i64.wrap (-S) = -S := IntWalk.i64_in _ (by omega)
    clear hsb hS
    go_wp2_with fail
    refine (sum_any (some ⟨xb, xo + b, none⟩) L (xc - b) (fun j => X (b + j)) _ HL.out (by omega) HBX.out).mono ?_
    rintro e w3 ⟨rfl, rfl⟩
    rw [← HSS.out]
    go_wp2_with fail
    go_ret
    refine ⟨?_, HB2.out⟩
    have h := HSU.out
    have e : pre X b - pre X (b + L) = -S := by omega
    rw [e]
    rfl
end Go.Proofs.YtnnikeolgknfoaaGreat

set_option linter.unusedSimpArgs false
set_option linter.unusedVariables false
namespace Go.Proofs.YtnnikeolgknfoaaGreat
open Go.RowKit Go.Shelf

def soB (r : Rw) (X : Nat → Int) (f : Fc) : Bool := decide (pre X (r.b f) - pre X (r.a f) ≤ r.num f)
def Rw.fitsB (r : Rw) (X : Nat → Int) : Bool := r.facts.all (soB r X)
theorem Rw.fitsB_iff {r : Rw} {X : Nat → Int} : r.fitsB X = true ↔ r.fits X := by
  unfold Rw.fitsB
  rw [List.all_eq_true]
  constructor
  · intro h f hf
    have h1 := h f (mem_facts.2 hf)
    unfold soB at h1
    exact (show pre X (r.b f) - pre X (r.a f) ≤ r.num f from of_decide_eq_true h1)
  · intro h f hf
    unfold soB
    have h1 := h f (mem_facts.1 hf)
    simp only [decide_eq_true_eq]
    exact h1
/-- fits at work -/
structure FtAt (W w : World) (db xb : Nat) (r : Rw) (X : Nat → Int) (xA : Option Addr) (xc B : Nat) (bA : Option Addr) (bc : Nat) (dA : Option Addr) (dc : Nat) (vA : Option Addr) (vc : Nat) (v : Bool) : Prop where
  t : w.cell? ⟨W.heap.size, 0, none⟩ = some (.pointer (some ⟨db, 0, none⟩))
  c : w.cell? ⟨W.heap.size + 1, 0, none⟩ = some (.slice xA r.n xc)
  o : w.cell? ⟨W.heap.size + 2, 0, none⟩ = some (.bool v)
  of : w.frozen? ⟨W.heap.size + 2, 0, none⟩ = false
  x : w.cell? ⟨xb, 0, none⟩ = some (.pointer (some ⟨db, 0, none⟩))
  d : DrAt w B db r bA bc dA dc vA vc
  i : IntRow w W.heap.size xA r.n X
  bel : Below W.heap.size W w
  sz : W.heap.size + 3 ≤ w.heap.size
theorem FtAt.later {W w w' : World} {db xb : Nat} {r : Rw} {X : Nat → Int} {xA : Option Addr} {xc B : Nat} {bA : Option Addr} {bc : Nat} {dA : Option Addr} {dc : Nat} {vA : Option Addr} {vc : Nat} {v : Bool} (h : FtAt W w db xb r X xA xc B bA bc dA dc vA vc v) {C : Nat} (hC : W.heap.size + 3 ≤ C) (hx : xb < C) (hd : db < C) (hB : B ≤ C) (hb : Below C w w') : FtAt W w' db xb r X xA xc B bA bc dA dc vA vc v :=
  ⟨cell_same (hb.block _ (by omega)) h.t, cell_same (hb.block _ (by omega)) h.c, cell_same (hb.block _ (by omega)) h.o, fro_same (hb.block _ (by omega)) h.of, cell_same (hb.block _ hx) h.x, ⟨h.d.a.same (hb.block _ hd), h.d.r.later (hb.mono hB)⟩, h.i.below (hb.mono (by omega)), h.bel.trans (hb.mono (by omega)), Nat.le_trans h.sz hb.size⟩

theorem FtAt.put {W w : World} {db xb : Nat} {r : Rw} {X : Nat → Int} {xA : Option Addr} {xc B : Nat} {bA : Option Addr} {bc : Nat} {dA : Option Addr} {dc : Nat} {vA : Option Addr} {vc : Nat} {v : Bool} (h : FtAt W w db xb r X xA xc B bA bc dA dc vA vc v) (u : Bool) (hx : W.heap.size + 3 ≤ xb) (hd : db < W.heap.size) (hB : B ≤ W.heap.size) : FtAt W (w.setCell ⟨W.heap.size + 1 + 1, 0, none⟩ (.bool u)) db xb r X xA xc B bA bc dA dc vA vc u := by
  have hb : Below (W.heap.size + 2) w (w.setCell ⟨W.heap.size + 1 + 1, 0, none⟩ (.bool u)) := (Below.refl (W.heap.size + 2) w).setCell (show W.heap.size + 2 ≤ W.heap.size + 1 + 1 by omega) _
  have hn : ∀ i, i ≠ W.heap.size + 2 → (w.setCell ⟨W.heap.size + 1 + 1, 0, none⟩ (.bool u)).heap[i]? = w.heap[i]? := fun i hi => Below.heap_setCell _ _ _ _ hi
  have o : w.cell? ⟨W.heap.size + 1 + 1, 0, none⟩ = some (.bool v) := h.o
  exact ⟨cell_same (hb.block _ (show W.heap.size < W.heap.size + 2 by omega)) h.t, cell_same (hb.block _ (show W.heap.size + 1 < W.heap.size + 2 by omega)) h.c, World.cell?_setCell_same _ _ _ o, (World.frozen?_setCell _ _ _ _).trans h.of, cell_same (hn _ (by omega)) h.x, ⟨h.d.a.same (hb.block _ (by omega)), h.d.r.later (hb.mono (by omega))⟩, h.i.below (hb.mono (by omega)), h.bel.trans (hb.mono (by omega)), Nat.le_trans h.sz hb.size⟩

attribute [local go_sem] Oper.semAt_some
set_option maxRecDepth 100000 in
set_option maxHeartbeats 4000000 in
theorem fits_any (r : Rw) (hr : r.ok) (X : Nat → Int) (hX : ∀ k, k < r.n → -100000 ≤ X k ∧ X k ≤ 100000) (xA : Option Addr) (xc : Nat) (hxc : r.n ≤ xc) (B db : Nat) (bA dA vA : Option Addr) (bc dc vc : Nat) (W : World) (hd : DrAt W B db r bA bc dA dc vA vc) (hx : IntRow W W.heap.size xA r.n X) :
    Calls Tryz.prog 121 #[.pointer (some ⟨db, 0, none⟩), .slice xA r.n xc] W fun e W' => e = .returned (.bool (r.fitsB X)) ∧ Below W.heap.size W W' := by
  have HR := Lib.hid hr
  have HX := Lib.hid hX
  have hdl := hd.a.lt
  have hBl := hd.r.lt
  have hn6 := hr.n6
  have hm10 := hr.m10
  have HD := Lib.hid hd
  have HI := Lib.hid hx
  clear hd hx hr hX
  refine calls_of_wp_marks Tryz.func121 rfl ?_; simp only [Tryz.ntmps121, List.size_toArray, List.length_cons, List.length_nil, Nat.reduceAdd, Nat.reduceSub, Array.replicate_succ, Array.replicate_zero, List.push_toArray, List.append_toArray, List.nil_append, List.cons_append]
  go_upto_region 1 with fail
  refine wp_world (fun W1 => (W1.cell? ⟨W.heap.size, 0, none⟩ = some (.pointer (some ⟨db, 0, none⟩)) ∧ W1.cell? ⟨W.heap.size + 1, 0, none⟩ = some (.slice xA r.n xc) ∧ W1.cell? ⟨W.heap.size + 2, 0, none⟩ = some (.bool false) ∧ W1.frozen? ⟨W.heap.size + 2, 0, none⟩ = false) ∧ Below W.heap.size W W1 ∧ W.heap.size + 3 ≤ W1.heap.size) ⟨⟨(by (repeat' refine And.intro ?_ ?_) <;> (repeat (first | with_reducible assumption | (simp; done) | (with_reducible first | refine Kd ?_ | refine Kn ?_ | refine Kb (by assumption) ?_) | ((with_reducible first | refine Kw ?_ ?_ | refine Fw ?_) <;> first | with_reducible rfl | (simp; done)) | (with_reducible first | refine Ka _ ?_ | refine Ks _ (by first | exact Nat.le_refl _ | omega | (simp; done) | (simp; omega)) ?_ | refine Fd ?_ | refine Fn ?_ | refine Fb (by assumption) (by first | exact Nat.le_refl _ | omega | (simp; done) | (simp; omega)) ?_ | refine Fa _ (by first | exact Nat.le_refl _ | omega | (simp; done) | (simp; omega)) ?_ | refine Fs _ ?_)))), (by (repeat' refine And.intro ?_ ?_) <;> (repeat (first | with_reducible assumption | (simp; done) | (with_reducible first | refine Kd ?_ | refine Kn ?_ | refine Kb (by assumption) ?_) | ((with_reducible first | refine Kw ?_ ?_ | refine Fw ?_) <;> first | with_reducible rfl | (simp; done)) | (with_reducible first | refine Ka _ ?_ | refine Ks _ (by first | exact Nat.le_refl _ | omega | (simp; done) | (simp; omega)) ?_ | refine Fd ?_ | refine Fn ?_ | refine Fb (by assumption) (by first | exact Nat.le_refl _ | omega | (simp; done) | (simp; omega)) ?_ | refine Fa _ (by first | exact Nat.le_refl _ | omega | (simp; done) | (simp; omega)) ?_ | refine Fs _ ?_)))), (by (repeat' refine And.intro ?_ ?_) <;> (repeat (first | with_reducible assumption | (simp; done) | (with_reducible first | refine Kd ?_ | refine Kn ?_ | refine Kb (by assumption) ?_) | ((with_reducible first | refine Kw ?_ ?_ | refine Fw ?_) <;> first | with_reducible rfl | (simp; done)) | (with_reducible first | refine Ka _ ?_ | refine Ks _ (by first | exact Nat.le_refl _ | omega | (simp; done) | (simp; omega)) ?_ | refine Fd ?_ | refine Fn ?_ | refine Fb (by assumption) (by first | exact Nat.le_refl _ | omega | (simp; done) | (simp; omega)) ?_ | refine Fa _ (by first | exact Nat.le_refl _ | omega | (simp; done) | (simp; omega)) ?_ | refine Fs _ ?_)))), (by (repeat' refine And.intro ?_ ?_) <;> (repeat (first | with_reducible assumption | (simp; done) | (with_reducible first | refine Kd ?_ | refine Kn ?_ | refine Kb (by assumption) ?_) | ((with_reducible first | refine Kw ?_ ?_ | refine Fw ?_) <;> first | with_reducible rfl | (simp; done)) | (with_reducible first | refine Ka _ ?_ | refine Ks _ (by first | exact Nat.le_refl _ | omega | (simp; done) | (simp; omega)) ?_ | refine Fd ?_ | refine Fn ?_ | refine Fb (by assumption) (by first | exact Nat.le_refl _ | omega | (simp; done) | (simp; omega)) ?_ | refine Fa _ (by first | exact Nat.le_refl _ | omega | (simp; done) | (simp; omega)) ?_ | refine Fs _ ?_))))⟩, (by repeat (first | (with_reducible first | exact Below.refl _ _ | assumption | refine Below.drew ?_) | ((with_reducible first | refine Lc ?_ ?_ _ | refine Ls ?_ ?_ _ | refine Lv (by assumption) ?_ ?_); · first | exact Nat.le_refl _ | omega | (dsimp only; omega) | (simp only [World.size_alloc, World.size_drew, World.heap_drewN]; omega) | (simp; omega)))), by simp⟩ ?_
  rintro w1 ⟨⟨t0, c0, o0, f0⟩, hb1, hs1⟩
  have HB1 := Lib.hid hb1
  have HD1 := Lib.hid (HD.out.later hb1)
  have HI1 := Lib.hid (HI.out.below hb1)
  clear hb1
  go_wp2_with fail
  refine (facts_any db _).mono ?_
  rintro e w3 ⟨rfl, hx3, hs3, hb3⟩
  have H3 : Hid (FtAt W w3 db w1.heap.size r X xA xc B bA bc dA dc vA vc false) := Lib.hid ⟨Kb hb3 t0, Kb hb3 c0, Kb hb3 o0, Fb hb3 (by dsimp only; omega) f0, hx3, HD1.out.later hb3, HI1.out.below (hb3.mono (by omega)), HB1.out.trans (hb3.mono (by omega)), by omega⟩
  obtain ⟨xb, hxb⟩ : ∃ x, x = w1.heap.size := ⟨_, rfl⟩
  rw [← hxb] at H3 hs3
  rw [← hxb]
  have hxl : xb < w3.heap.size ∧ W.heap.size + 3 ≤ xb ∧ db < xb := by omega
  have hB3 : B ≤ w3.heap.size := by omega
  clear hx3 hb3 hs3 hxb t0 c0 o0 f0 HB1 HD1 HI1 HD HI hs1
  go_wp2_with fail
  refine wp_facts r (by omega) (by omega) xb db bA dA vA bc dc vc rfl rfl
    (fun pr Wx => FtAt W Wx db xb r X xA xc B bA bc dA dc vA vc false ∧ (∀ f, f ∈ pr → soB r X f = true) ∧ w3.heap.size ≤ Wx.heap.size)
    (fun c _ Wx => c = .ret ∧ r.fitsB X = false ∧ FtAt W Wx db xb r X xA xc B bA bc dA dc vA vc false)
    (fun s A C ⟨h1, h2, h3⟩ hb => ⟨h1.later (by omega) (by omega) (by omega) hB3 hb, h2, Nat.le_trans h3 hb.size⟩)
    (fun c s A C ⟨h1, h2, h3⟩ hb => ⟨h1, h2, h3.later (by omega) (by omega) (by omega) hB3 hb⟩) (fun _ _ h => ⟨h.1.x, h.1.d.a⟩) ⟨H3.out, fun f hf => by simp at hf, Nat.le_refl _⟩
    ?fr ?assign ?body ?done ?stop
  case assign =>
    intro l pr x Wr K hi hK
    have HK := Lib.hid hK
    clear hK hi
    gi_wp2
    obtain ⟨Bx, hBx⟩ : ∃ Bx, Bx = Wr.heap.size := ⟨_, rfl⟩
    rw [← hBx]
    refine HK.out Bx _ hBx ?_ ?_
    · exact (by repeat (first | (with_reducible first | exact Below.refl _ _ | refine Below.drew ?_ | refine below_drewN ?_ _) | ((with_reducible first | refine Lc ?_ ?_ _ | refine Ls ?_ ?_ _ | refine Lv (by assumption) ?_ ?_); · first | exact Nat.le_refl _ | omega | (simp; done) | (simp; omega) | (simp at *; omega))))
    subst hBx
    exact ⟨(by (repeat' refine And.intro ?_ ?_) <;> (repeat (first | with_reducible assumption | (simp; done) | (with_reducible first | refine Kd ?_ | refine Kn ?_ | refine Kb (by assumption) ?_) | ((with_reducible first | refine Kw ?_ ?_ | refine Fw ?_) <;> first | with_reducible rfl | (simp; done)) | (with_reducible first | refine Ka _ ?_ | refine Ks _ (by first | exact Nat.le_refl _ | omega | (simp; done) | (simp; omega)) ?_ | refine Fd ?_ | refine Fn ?_ | refine Fb (by assumption) (by first | exact Nat.le_refl _ | omega | (simp; done) | (simp; omega)) ?_ | refine Fa _ (by first | exact Nat.le_refl _ | omega | (simp; done) | (simp; omega)) ?_ | refine Fs _ ?_)))), (by (repeat' refine And.intro ?_ ?_) <;> (repeat (first | with_reducible assumption | (simp; done) | (with_reducible first | refine Kd ?_ | refine Kn ?_ | refine Kb (by assumption) ?_) | ((with_reducible first | refine Kw ?_ ?_ | refine Fw ?_) <;> first | with_reducible rfl | (simp; done)) | (with_reducible first | refine Ka _ ?_ | refine Ks _ (by first | exact Nat.le_refl _ | omega | (simp; done) | (simp; omega)) ?_ | refine Fd ?_ | refine Fn ?_ | refine Fb (by assumption) (by first | exact Nat.le_refl _ | omega | (simp; done) | (simp; omega)) ?_ | refine Fa _ (by first | exact Nat.le_refl _ | omega | (simp; done) | (simp; omega)) ?_ | refine Fs _ ?_)))), (by (repeat' refine And.intro ?_ ?_) <;> (repeat (first | with_reducible assumption | (simp; done) | (with_reducible first | refine Kd ?_ | refine Kn ?_ | refine Kb (by assumption) ?_) | ((with_reducible first | refine Kw ?_ ?_ | refine Fw ?_) <;> first | with_reducible rfl | (simp; done)) | (with_reducible first | refine Ka _ ?_ | refine Ks _ (by first | exact Nat.le_refl _ | omega | (simp; done) | (simp; omega)) ?_ | refine Fd ?_ | refine Fn ?_ | refine Fb (by assumption) (by first | exact Nat.le_refl _ | omega | (simp; done) | (simp; omega)) ?_ | refine Fa _ (by first | exact Nat.le_refl _ | omega | (simp; done) | (simp; omega)) ?_ | refine Fs _ ?_))))⟩
  case body =>
    intro l pr x Bx Wr hi hBx hfc hpre hlt4
    have HI := Lib.hid hi
    have HFC := Lib.hid hfc
    have hmem : x ∈ r.facts := hpre.subset (by simp)
    have hh : r.has x := mem_facts.1 hmem
    have HH := Lib.hid hh
    have HM := Lib.hid hmem
    have t0 := hi.1.t
    have c0 := hi.1.c
    obtain ⟨q0, q1, q2⟩ := hfc
    clear hi hmem hpre
    gi_wp2_with fail
    refine ⟨trivial, rfl, CallsIn.inRound _ (callsIn_wide.2 ((so_any r HR.out x HH.out X HX.out xA xc hxc B db bA dA vA bc dc vc _ HI.out.1.d (HI.out.1.i.mono (by omega))).mono ?_))⟩
    rintro e w4 ⟨rfl, hb4⟩
    have hs4 := hb4.size
    have h4 := HI.out.1.later (by omega) (by omega) (by omega) (by omega) (hb4.mono (Nat.le_refl _))
    have H4 := Lib.hid h4
    have HN4 := Lib.hid (NewFrom.below (B := w3.heap.size) hb4)
    cases hso : soB r X x with
    | true =>
      have hso' : decide (pre X (r.b x) - pre X (r.a x) ≤ r.num x) = true := hso
      rw [hso']
      have HSO := Lib.hid hso
      clear hso hso' hb4 h4 q0 q1 q2 t0 c0
      gi_wp2_with fail
      refine ⟨HN4.out, H4.out, fun f hf => ?_, Nat.le_trans HI.out.2.2 hs4⟩
      rcases List.mem_append.1 hf with h | h
      · exact HI.out.2.1 f h
      · rw [List.mem_singleton.1 h]
        exact HSO.out
    | false =>
      have hso' : decide (pre X (r.b x) - pre X (r.a x) ≤ r.num x) = false := hso
      rw [hso']
      have HSO := Lib.hid hso
      have o4 := h4.o
      have f4 := h4.of
      clear hso hso' hb4 h4 q0 q1 q2 t0 c0
      gi_wp2_with fail
      have hs4' : W.heap.size + 3 ≤ w4.heap.size := H4.out.sz
      refine ⟨.trans HN4.out (NewFrom.set _ (by simp; omega) (.refl _ _)), rfl, ?_, ?_⟩
      · cases h : r.fitsB X with
        | false => rfl
        | true =>
          have := List.all_eq_true.1 h x HM.out
          rw [HSO.out] at this
          cases this
      · exact H4.out.put false (by omega) (by omega) (by omega)
  case done =>
    rintro D Wd hD ⟨h1, h2, h3⟩ hdef
    have hff : r.fitsB X = true := List.all_eq_true.2 h2
    have H1 := Lib.hid h1
    have o0 : Wd.cell? ⟨W.heap.size + 1 + 1, 0, none⟩ = some (.bool false) := h1.o
    have of0 : Wd.frozen? ⟨W.heap.size + 1 + 1, 0, none⟩ = false := h1.of
    have hDl := lt_obj hdef
    have hDo : W.heap.size + 3 ≤ D := by omega
    have HE : Hid ((Wd.setCell ⟨W.heap.size + 1 + 1, 0, none⟩ (.bool true)).heap[D]? = some (.deferred (some []))) := Lib.hid ((Below.heap_setCell _ _ _ _ (by dsimp only; omega)).trans hdef)
    have HB : Hid (Below W.heap.size W (Wd.setCell ⟨W.heap.size + 1 + 1, 0, none⟩ (.bool true))) := Lib.hid (h1.bel.setCell (by dsimp only; omega) _)
    clear h1 h2 hdef
    go_wp2_with fail
    have hp : Below D (Wd.setCell ⟨W.heap.size + 1 + 1, 0, none⟩ (.bool true)) ((Wd.setCell ⟨W.heap.size + 1 + 1, 0, none⟩ (.bool true)).putObj D (.deferred none)) := below_put _ _ _ _ (Nat.le_refl _) (by simp; omega)
    have o1 : ((Wd.setCell ⟨W.heap.size + 1 + 1, 0, none⟩ (.bool true)).putObj D (.deferred none)).cell? ⟨W.heap.size + 1 + 1, 0, none⟩ = some (.bool true) := cell_same (hp.block _ (show W.heap.size + 1 + 1 < D by omega)) (World.cell?_setCell_same _ _ _ o0)
    refine ⟨by simp, .inl ⟨_, _, rfl, run_takeDeferred HE.out, ?_⟩⟩
    refine ⟨.bool true, ?_, by rw [hff], HB.out.trans (hp.mono (by omega))⟩
    simp [results, Tryz.results121, go_sem, o1]
  case stop =>
    rintro D c pr Wd hD hpr ⟨rfl, hff, h2⟩ hdef
    have hDl := lt_obj hdef
    have hDo : W.heap.size + 3 ≤ D := by omega
    have HE := Lib.hid hdef
    have HB := Lib.hid h2.bel
    have hp : Below D Wd (Wd.putObj D (.deferred none)) := below_put _ _ _ _ (Nat.le_refl _) (by omega)
    have o1 : (Wd.putObj D (.deferred none)).cell? ⟨W.heap.size + 1 + 1, 0, none⟩ = some (.bool false) := cell_same (hp.block _ (show W.heap.size + 1 + 1 < D by omega)) h2.o
    have HP := Lib.hid hp
    clear h2 hdef hp
    go_wp2_with fail
    refine ⟨by simp, .inl ⟨_, _, rfl, run_takeDeferred HE.out, ?_⟩⟩
    refine ⟨.bool false, ?_, by rw [hff], HB.out.trans (HP.out.mono (by omega))⟩
    simp [results, Tryz.results121, go_sem, o1]
end Go.Proofs.YtnnikeolgknfoaaGreat

set_option linter.unusedSimpArgs false
set_option linter.unusedVariables false
namespace Go.Proofs.YtnnikeolgknfoaaGreat
open Go.RowKit Go.Shelf

def ConPost (n : Nat) (X : Nat → Int) (W : World) (e : Ending) (W' : World) : Prop :=
  ∃ (A : Option Addr) (c : Nat), e = .returned (.slice A n c) ∧ W'.ownsRow W.heap.size 3 1 (.slice A n c) n (numCells X n) ∧ Below W.heap.size W W'

set_option maxRecDepth 100000 in
set_option maxHeartbeats 4000000 in
theorem contents_any (n : Nat) (hn : n ≤ 6) (Y : Nat → Int) (hY : ∀ p, p ≤ n → -10000 ≤ Y p ∧ Y p ≤ 10000) (g : Nat) (caps : Array Value) (hcf : ∀ args w, (callFunc g args).run Tryz.prog w = .ok (.enter g args) w) (db : Nat) (bA : Option Addr) (bc : Nat) (W : World) (hd : W.cell? ⟨db, 0, none⟩ = some (.slice bA n bc))
    (hg : ∀ p : Nat, p ≤ n → ∀ w, Below W.heap.size W w → Calls Tryz.prog g (#[.int .i64 (p : Int)] ++ caps) w fun e w' => e = .returned (.int .i64 (Y p)) ∧ Below w.heap.size w w') :
    Calls Tryz.prog 101 #[.pointer (some ⟨db, 0, none⟩), .func (.func g) #[] caps] W (ConPost n (byPre Y) W) := by
  have HG := Lib.hid hg
  have HY := Lib.hid hY
  have hdl := World.block_lt_of_cell? W _ hd
  clear hg hY
  obtain ⟨i0, hi, hz0, hz1, hz2⟩ := info_parts infoInt
  go_enter Tryz.func101, Tryz.ntmps101
  go_wp2_with fail
  refine wp_world (fun W1 => Below W.heap.size W W1) (by repeat (first | (with_reducible first | exact Below.refl _ _ | refine Below.drew ?_ | refine below_drewN ?_ _) | ((with_reducible first | refine Lc ?_ ?_ _ | refine Ls ?_ ?_ _ | refine Lv (by assumption) ?_ ?_); · first | exact Nat.le_refl _ | omega | (simp; done) | (simp; omega) | (simp at *; omega)))) ?_
  intro w1 hb1
  have hs1 := hb1.size
  have HB1 := Lib.hid hb1
  clear hb1 hd
  go_loopw [5, 13] (fun v i wr => ∃ k : Nat, k ≤ n ∧ i = .int .i64 k ∧ Hid (wr.ownsRow w1.heap.size 3 1 v k (numCells (byPre Y) k)) ∧ Hid (Below W.heap.size W wr) ∧ w1.heap.size ≤ wr.heap.size) (fun _ i _ => n - (intOf i).toNat)
  case atStart => exact ⟨0, Nat.zero_le _, rfl, Lib.hid (World.ownsRow_nil _ _ _ _), HB1, Nat.le_refl _⟩
  case round =>
    clear HB1
    obtain ⟨k, hk, rfl, HO, HB, hsz⟩ := hrel
    by_cases hlt : k < n
    · have hkn : (k : Int) < (n : Int) := by omega
      have hk0 : (0 : Int) ≤ (k : Int) := by omega
      have ek : IntKind.i64.wrap ((k : Int) + 1) = ((k + 1 : Nat) : Int) := by rw [IntWalk.i64_in _ (by omega)]; omega
      have y1 := HY.out (k + 1) (by omega)
      have y0 := HY.out k (by omega)
      have ey : IntKind.i64.wrap (Y (k + 1) - Y k) = Y (k + 1) - Y k := IntWalk.i64_in _ (by omega)
      obtain ⟨wo, rfl⟩ : ∃ wo, wo = wr := ⟨_, rfl⟩
      have hv1 := HO.out.lt
      go_wp2_with fail
      have h1 := HG.out (k + 1) (by omega) wo HB.out
      rw [← ek, IntWalk.i64_in _ (by omega)] at h1
      refine h1.mono ?_
      clear h1
      rintro e w2 ⟨rfl, hb2⟩
      have hz2' := hb2.size
      have HB2 := Lib.hid (HB.out.trans (hb2.mono (by omega)))
      have HO2 := Lib.hid (owns_later HO.out hb2)
      have hb2' := hb2
      clear hb2 HO
      go_wp2_with fail
      refine (HG.out k hk w2 HB2.out).mono ?_
      rintro e w3 ⟨rfl, hb3⟩
      have hz3 := hb3.size
      have HO3 := Lib.hid (owns_later HO2.out hb3)
      have hv3 := HO3.out.lt
      have HB23 := Lib.hid (hb2'.trans (hb3.mono hz2'))
      clear hb2' hb3 HO2
      go_upto_region 6 with (at_builtin; refine wpList_append_lies _ rfl (.tmp 16) (.tmp 25) 31 rfl w1.heap.size 3 i0 (.int .i64 0) 1 8 ints_under hi hz0 hz1 hz2 rfl (by decide) u5 k (numCells (byPre Y) k) rfl (HO3.out.alloc _) ⟨w3.heap.size, 0, none⟩ 1 1 [.int .i64 (Y (k + 1) - Y k)] rfl rfl (new_cells (cs := [.int .i64 (Y (k + 1) - Y k)])) (by intro u hu; simp only [List.mem_cons, List.not_mem_nil, or_false] at hu; subst hu; rfl) (by omega) (by unfold maxLen; omega) (by omega) (by simp; omega) (w3.heap.size + 1) (by simp) ?_; intro g cap w6 hown6 hgr6 hat6 hlt6)
      have hB6 : Below w1.heap.size wo w6 := Below.grown ((HB23.out.mono hsz).alloc (by omega) _) hgr6 (by simp; omega) (fun q hq => (hv1 q hq).1)
      have HO6 : Hid (w6.ownsRow w1.heap.size 3 1 (.slice (some ⟨g, 0, none⟩) (k + 1) cap) (k + 1) (numCells (byPre Y) (k + 1))) := Lib.hid (by rw [numCells_succ]; exact hown6)
      have HB6 := Lib.hid (HB.out.trans (hB6.mono (by omega)))
      have hz6 : w1.heap.size ≤ w6.heap.size := Nat.le_trans hsz hB6.size
      clear hown6 hgr6 hat6 hlt6 hB6 HO3 hv3 hv1 HB23
      go_wp2_with fail
      go_roundw
      case rel => exact ⟨k + 1, by omega, by go_num, HO6, HB6, hz6⟩
      case measure => simp [intOf]; omega
    · obtain rfl : k = n := by omega
      have hge : ¬ (k : Int) < (k : Int) := by omega
      go_wp2_with fail
      obtain ⟨A, c, rfl⟩ : ∃ A c, u5 = .slice A k c := by
        rcases HO.out.2 with ⟨rfl, rfl⟩ | ⟨g, cap, cur, rfl, -⟩
        · exact ⟨_, _, rfl⟩
        · exact ⟨_, _, rfl⟩
      go_ret
      exact ⟨A, c, rfl, owns_low (by omega) HO.out, HB.out⟩

set_option maxRecDepth 100000 in
set_option maxHeartbeats 4000000 in
theorem truthC_any (n p : Nat) (hn : n ≤ 6) (hp : p ≤ n) (L : Nat → Nat → Int) (tb db : Nat) (w : World) (ht : w.cell? ⟨tb, 0, none⟩ = some (.pointer (some ⟨db, 0, none⟩))) (hl : LsAt w db n L) :
    Calls Tryz.prog 122 #[.int .i64 (p : Int), .pointer (some ⟨tb, 0, none⟩)] w fun e w' => e = .returned (.int .i64 (L 0 p)) ∧ Below w.heap.size w w' := by
  have c0 := hl 0 p (by omega) hp
  have hp7 : (p : Int) < 7 := by omega
  have hp0 : (0 : Int) ≤ (p : Int) := by omega
  clear hl
  go_enter Tryz.func122, Tryz.ntmps122
  go_wp2_with fail
  go_ret
  exact ⟨rfl, (by repeat (first | (with_reducible first | exact Below.refl _ _ | refine Below.drew ?_ | refine below_drewN ?_ _) | ((with_reducible first | refine Lc ?_ ?_ _ | refine Ls ?_ ?_ _ | refine Lv (by assumption) ?_ ?_); · first | exact Nat.le_refl _ | omega | (simp; done) | (simp; omega) | (simp at *; omega))))⟩

set_option maxRecDepth 100000 in
set_option maxHeartbeats 4000000 in
theorem reach1_any (n f p : Nat) (hn : n ≤ 6) (hf : f ≤ n) (hp : p ≤ n) (L : Nat → Nat → Int) (tb fb db : Nat) (w : World) (ht : w.cell? ⟨tb, 0, none⟩ = some (.pointer (some ⟨db, 0, none⟩))) (hfb : w.cell? ⟨fb, 0, none⟩ = some (.int .i64 (f : Int))) (hl : LsAt w db n L) :
    Calls Tryz.prog 102 #[.int .i64 (p : Int), .pointer (some ⟨tb, 0, none⟩), .pointer (some ⟨fb, 0, none⟩)] w fun e w' => e = .returned (.int .i64 (L f p)) ∧ Below w.heap.size w w' := by
  have c0 := hl f p hf hp
  obtain ⟨x, hx⟩ : ∃ x, x = L f p := ⟨_, rfl⟩
  rw [← hx] at c0 ⊢
  have hp7 : (p : Int) < 7 := by omega
  have hp0 : (0 : Int) ≤ (p : Int) := by omega
  have hf7 : (f : Int) < 7 := by omega
  have hf0 : (0 : Int) ≤ (f : Int) := by omega
  clear hl hx
  go_enter Tryz.func102, Tryz.ntmps102
  go_upto_region 1 with fail
  go_region_held3 (fun w' => w'.cell? ⟨tb, 0, none⟩ = some (.pointer (some ⟨db, 0, none⟩)) ∧ w'.cell? ⟨fb, 0, none⟩ = some (.int .i64 (f : Int)) ∧ w'.cell? ⟨db, 3 + f * 7 + p, none⟩ = some (.int .i64 x)) ((go_split_ands; (repeat' refine And.intro ?_ ?_) <;> (repeat (first | with_reducible assumption | (simp; done) | (with_reducible first | refine Kd ?_ | refine Kn ?_ | refine Kb (by assumption) ?_) | ((with_reducible first | refine Kw ?_ ?_ | refine Fw ?_) <;> first | with_reducible rfl | (simp; done)) | (with_reducible first | refine Ka _ ?_ | refine Ks _ (by first | exact Nat.le_refl _ | omega | (simp; done) | (simp; omega) | (simp at *; omega)) ?_ | refine Fd ?_ | refine Fn ?_ | refine Fb (by assumption) (by first | exact Nat.le_refl _ | omega | (simp; done) | (simp; omega) | (simp at *; omega)) ?_ | refine Fa _ (by first | exact Nat.le_refl _ | omega | (simp; done) | (simp; omega) | (simp at *; omega)) ?_ | refine Fs _ ?_))))) (fail)
  go_wp2_with fail
  go_ret
  exact ⟨rfl, (by repeat (first | (with_reducible first | exact Below.refl _ _ | refine Below.drew ?_ | refine below_drewN ?_ _) | ((with_reducible first | refine Lc ?_ ?_ _ | refine Ls ?_ ?_ _ | refine Lv (by assumption) ?_ ?_); · first | exact Nat.le_refl _ | omega | (simp; done) | (simp; omega) | (simp at *; omega))))⟩

set_option maxRecDepth 100000 in
set_option maxHeartbeats 4000000 in
theorem reach2_any (n f p : Nat) (hn : n ≤ 6) (hf : f ≤ n) (hp : p ≤ n) (L : Nat → Nat → Int) (hL : -10000 ≤ L p f ∧ L p f ≤ 10000) (tb fb db : Nat) (w : World) (ht : w.cell? ⟨tb, 0, none⟩ = some (.pointer (some ⟨db, 0, none⟩))) (hfb : w.cell? ⟨fb, 0, none⟩ = some (.int .i64 (f : Int))) (hl : LsAt w db n L) :
    Calls Tryz.prog 103 #[.int .i64 (p : Int), .pointer (some ⟨tb, 0, none⟩), .pointer (some ⟨fb, 0, none⟩)] w fun e w' => e = .returned (.int .i64 (-L p f)) ∧ Below w.heap.size w w' := by
  have c0 := hl p f hp hf
  obtain ⟨x, hx⟩ : ∃ x, x = L p f := ⟨_, rfl⟩
  rw [← hx] at c0 hL ⊢
  have hp7 : (p : Int) < 7 := by omega
  have hp0 : (0 : Int) ≤ (p : Int) := by omega
  have hf7 : (f : Int) < 7 := by omega
  have hf0 : (0 : Int) ≤ (f : Int) := by omega
  have en : IntKind.i64.wrap (-x) = -x := IntWalk.i64_in _ (by omega)
  clear hl hx
  go_enter Tryz.func103, Tryz.ntmps103
  go_upto_region 1 with fail
  go_region_held3 (fun w' => w'.cell? ⟨tb, 0, none⟩ = some (.pointer (some ⟨db, 0, none⟩)) ∧ w'.cell? ⟨fb, 0, none⟩ = some (.int .i64 (f : Int)) ∧ w'.cell? ⟨db, 3 + p * 7 + f, none⟩ = some (.int .i64 x)) ((go_split_ands; (repeat' refine And.intro ?_ ?_) <;> (repeat (first | with_reducible assumption | (simp; done) | (with_reducible first | refine Kd ?_ | refine Kn ?_ | refine Kb (by assumption) ?_) | ((with_reducible first | refine Kw ?_ ?_ | refine Fw ?_) <;> first | with_reducible rfl | (simp; done)) | (with_reducible first | refine Ka _ ?_ | refine Ks _ (by first | exact Nat.le_refl _ | omega | (simp; done) | (simp; omega) | (simp at *; omega)) ?_ | refine Fd ?_ | refine Fn ?_ | refine Fb (by assumption) (by first | exact Nat.le_refl _ | omega | (simp; done) | (simp; omega) | (simp at *; omega)) ?_ | refine Fa _ (by first | exact Nat.le_refl _ | omega | (simp; done) | (simp; omega) | (simp at *; omega)) ?_ | refine Fs _ ?_))))) (fail)
  go_wp2_with fail
  go_ret
  exact ⟨rfl, (by repeat (first | (with_reducible first | exact Below.refl _ _ | refine Below.drew ?_ | refine below_drewN ?_ _) | ((with_reducible first | refine Lc ?_ ?_ _ | refine Ls ?_ ?_ _ | refine Lv (by assumption) ?_ ?_); · first | exact Nat.le_refl _ | omega | (simp; done) | (simp; omega) | (simp at *; omega))))⟩

set_option maxRecDepth 100000 in
set_option maxHeartbeats 4000000 in
theorem Fits_any (r : Rw) (hr : r.ok) (X : Nat → Int) (hX : ∀ k, k < r.n → -100000 ≤ X k ∧ X k ≤ 100000) (xA : Option Addr) (xc : Nat) (hxc : r.n ≤ xc) (bA dA vA : Option Addr) (bc dc vc : Nat) (W : World) (hrow : RwRow W W.heap.size r bA bc dA dc vA vc) (hx : IntRow W W.heap.size xA r.n X) :
    Calls Tryz.prog 51 #[rwV bA r.n bc dA r.d dc vA r.m vc, .slice xA r.n xc] W fun e W' => e = .returned (.tuple #[.bool (r.fitsB X), .int .i64 0]) ∧ Below W.heap.size W W' := by
  have H0 := Lib.hid hrow
  have HX := Lib.hid hx
  have hc := Rw.check_ok.2 hr
  clear hrow hx
  go_enter Tryz.func51, Tryz.ntmps51
  go_wp2_with fail
  refine (opened_any r bA dA vA bc dc vc _ ((H0.out.later (by repeat (first | (with_reducible first | exact Below.refl _ _ | assumption | refine Below.drew ?_) | ((with_reducible first | refine Lc ?_ ?_ _ | refine Ls ?_ ?_ _ | refine Lv (by assumption) ?_ ?_); · first | exact Nat.le_refl _ | omega | (dsimp only; omega) | (simp only [World.size_alloc, World.size_drew, World.heap_drewN]; omega) | (simp; omega))))).up (by first | exact Nat.le_refl _ | omega | (simp; done) | (simp; omega) | (simp at *; omega)) (by first | exact Nat.le_refl _ | omega | (simp; done) | (simp; omega) | (simp at *; omega)))).mono ?_
  rintro e w1 (⟨h0, db, A, c, rfl, hdb, hd, ho, hb1⟩ | ⟨h0, rfl, hb1⟩)
  · have HB1 := Lib.hid (show Below W.heap.size W w1 from (by repeat (first | (with_reducible first | exact Below.refl _ _ | refine Below.drew ?_ | refine below_drewN ?_ _) | ((with_reducible first | refine Lc ?_ ?_ _ | refine Ls ?_ ?_ _ | refine Lv (by assumption) ?_ ?_); · first | exact Nat.le_refl _ | omega | (simp; done) | (simp; omega) | (simp at *; omega)))))
    have c0 : w1.cell? ⟨W.heap.size, 0, none⟩ = some (.slice bA r.n bc) := Kb hb1 (by (repeat' refine And.intro ?_ ?_) <;> (repeat (first | with_reducible assumption | (simp; done) | (with_reducible first | refine Kd ?_ | refine Kn ?_ | refine Kb (by assumption) ?_) | ((with_reducible first | refine Kw ?_ ?_ | refine Fw ?_) <;> first | with_reducible rfl | (simp; done)) | (with_reducible first | refine Ka _ ?_ | refine Ks _ (by first | exact Nat.le_refl _ | omega | (simp; done) | (simp; omega)) ?_ | refine Fd ?_ | refine Fn ?_ | refine Fb (by assumption) (by first | exact Nat.le_refl _ | omega | (simp; done) | (simp; omega)) ?_ | refine Fa _ (by first | exact Nat.le_refl _ | omega | (simp; done) | (simp; omega)) ?_ | refine Fs _ ?_))))
    have HD := Lib.hid hd.a
    have hdl := hd.a.a.lt
    have hs1 := HB1.out.size
    clear h0 hd ho hb1
    go_wp2_with fail
    refine (fits_any r hr X hX xA xc hxc _ db bA dA vA bc dc vc _ HD.out ((HX.out.below HB1.out).mono hs1)).mono ?_
    rintro e w2 ⟨rfl, hb2⟩
    have HB2 := Lib.hid (HB1.out.trans (hb2.mono hs1))
    clear hb2
    go_wp2_with fail
    go_ret2
    exact ⟨rfl, HB2.out⟩
  · exact absurd hc h0
end Go.Proofs.YtnnikeolgknfoaaGreat

set_option linter.unusedSimpArgs false
set_option linter.unusedVariables false
namespace Go.Proofs.YtnnikeolgknfoaaGreat
open Go.RowKit Go.Shelf

/-- contents, or none -/
def ConsPost (n : Nat) (X : Nat → Int) (W : World) (e : Ending) (W' : World) : Prop :=
  ∃ (A : Option Addr) (c : Nat), e = .returned (.tuple #[.slice A n c, .int .i64 0]) ∧ W'.ownsRow W.heap.size 3 1 (.slice A n c) n (numCells X n) ∧ Below W.heap.size W W'

set_option maxRecDepth 100000 in
set_option maxHeartbeats 4000000 in
theorem Truth_any (r : Rw) (h : r.fitErr = 0) (bA dA vA : Option Addr) (bc dc vc : Nat) (W : World) (hrow : RwRow W W.heap.size r bA bc dA dc vA vc) :
    Calls Tryz.prog 52 #[rwV bA r.n bc dA r.d dc vA r.m vc] W (ConsPost r.n (byPre (r.search.1.L 0)) W) := by
  have H0 := Lib.hid hrow
  have HE := Lib.hid h
  clear hrow h
  go_enter Tryz.func52, Tryz.ntmps52
  go_wp2_with fail
  refine (fitting_any r bA dA vA bc dc vc _ ((H0.out.later (by repeat (first | (with_reducible first | exact Below.refl _ _ | assumption | refine Below.drew ?_) | ((with_reducible first | refine Lc ?_ ?_ _ | refine Ls ?_ ?_ _ | refine Lv (by assumption) ?_ ?_); · first | exact Nat.le_refl _ | omega | (dsimp only; omega) | (simp only [World.size_alloc, World.size_drew, World.heap_drewN]; omega) | (simp; omega))))).up (by first | exact Nat.le_refl _ | omega | (simp; done) | (simp; omega) | (simp at *; omega)) (by first | exact Nat.le_refl _ | omega | (simp; done) | (simp; omega) | (simp at *; omega)))).mono ?_
  rintro e w1 (⟨h0, db, A, c, rfl, hdb, hd, ho, hb1⟩ | ⟨h0, rfl, hb1⟩)
  · have HB1 := Lib.hid (show Below W.heap.size W w1 from (by repeat (first | (with_reducible first | exact Below.refl _ _ | refine Below.drew ?_ | refine below_drewN ?_ _) | ((with_reducible first | refine Lc ?_ ?_ _ | refine Ls ?_ ?_ _ | refine Lv (by assumption) ?_ ?_); · first | exact Nat.le_refl _ | omega | (simp; done) | (simp; omega) | (simp at *; omega)))))
    have hs1 := hb1.size
    simp only [World.size_alloc, World.size_drew] at hs1
    obtain ⟨hok, hrd⟩ := Rw.fit_ok h0
    have HFI := Lib.hid (Rw.fin_of hok hrd)
    have hn6 := hok.n6
    have HL := Lib.hid hd.l
    have HC := Lib.hid hd.a.a.c0
    have hdlt := hd.lt
    clear h0 hd ho hb1 hok hrd
    go_wp2_with fail
    obtain ⟨wx, hwx⟩ : ∃ wx, wx = w1.alloc (.cells #[.pointer (some ⟨db, 0, none⟩)] 134) := ⟨_, rfl⟩
    rw [← hwx]
    have hbx : Below w1.heap.size w1 wx := hwx ▸ ((Below.refl _ _).alloc (Nat.le_refl _) _)
    have t0 : wx.cell? ⟨w1.heap.size, 0, none⟩ = some (.pointer (some ⟨db, 0, none⟩)) := by rw [hwx]; exact (by (repeat' refine And.intro ?_ ?_) <;> (repeat (first | with_reducible assumption | (simp; done) | (with_reducible first | refine Kd ?_ | refine Kn ?_ | refine Kb (by assumption) ?_) | ((with_reducible first | refine Kw ?_ ?_ | refine Fw ?_) <;> first | with_reducible rfl | (simp; done)) | (with_reducible first | refine Ka _ ?_ | refine Ks _ (by first | exact Nat.le_refl _ | omega | (simp; done) | (simp; omega)) ?_ | refine Fd ?_ | refine Fn ?_ | refine Fb (by assumption) (by first | exact Nat.le_refl _ | omega | (simp; done) | (simp; omega)) ?_ | refine Fa _ (by first | exact Nat.le_refl _ | omega | (simp; done) | (simp; omega)) ?_ | refine Fs _ ?_))))
    have hsx : w1.heap.size < wx.heap.size := World.block_lt_of_cell? wx _ t0
    clear hwx
    refine (contents_any r.n hn6 (r.search.1.L 0) (fun p hp => ?_) 122 #[.pointer (some ⟨w1.heap.size, 0, none⟩)] (enters_of Tryz.func122 (by kernel_rfl) rfl) db bA bc wx (cell_same (hbx.block db hdlt) HC.out) (fun p hp w hb => ?_)).mono ?_
    · have := HFI.out.d 0 p (by omega) hp
      omega
    · exact truthC_any r.n p hn6 hp _ _ db w (Kb hb t0) (HL.out.same ((hb.block db (by omega)).trans (hbx.block db hdlt)))
    rintro e w2 ⟨A2, c2, rfl, ho2, hb2⟩
    have HO2 := Lib.hid ho2
    have HB2 := Lib.hid ((HB1.out.trans (hbx.mono (by omega))).trans (hb2.mono (by omega)))
    clear ho2 hb2 hbx t0
    go_wp2_with fail
    go_ret2
    exact ⟨A2, c2, rfl, owns_low (by omega) HO2.out, HB2.out⟩
  · exact absurd HE.out h0

/-- what bins reach -/
def Rw.reachY (r : Rw) (f : Nat) (most : Bool) (p : Nat) : Int := if most then r.search.1.L f p else -r.search.1.L p f

set_option maxRecDepth 100000 in
set_option maxHeartbeats 4000000 in
theorem Reach_any (r : Rw) (f t : Nat) (most : Bool) (h : r.askErr f t = 0) (bA dA vA : Option Addr) (bc dc vc : Nat) (W : World) (hrow : RwRow W W.heap.size r bA bc dA dc vA vc) :
    Calls Tryz.prog 33 #[rwV bA r.n bc dA r.d dc vA r.m vc, .int .i64 f, .int .i64 t, .bool most] W (ConsPost r.n (byPre (r.reachY f most)) W) := by
  have H0 := Lib.hid hrow
  have HE := Lib.hid h
  clear hrow h
  go_enter Tryz.func33, Tryz.ntmps33
  go_wp2_with fail
  refine (asked_any r f t bA dA vA bc dc vc _ ((H0.out.later (by repeat (first | (with_reducible first | exact Below.refl _ _ | assumption | refine Below.drew ?_) | ((with_reducible first | refine Lc ?_ ?_ _ | refine Ls ?_ ?_ _ | refine Lv (by assumption) ?_ ?_); · first | exact Nat.le_refl _ | omega | (dsimp only; omega) | (simp only [World.size_alloc, World.size_drew, World.heap_drewN]; omega) | (simp; omega))))).up (by first | exact Nat.le_refl _ | omega | (simp; done) | (simp; omega) | (simp at *; omega)) (by first | exact Nat.le_refl _ | omega | (simp; done) | (simp; omega) | (simp at *; omega)))).mono ?_
  rintro e w1 (⟨h0, db, A, c, rfl, hdb, hd, ho, hb1⟩ | ⟨h0, rfl, hb1⟩)
  · have HB1 := Lib.hid (show Below W.heap.size W w1 from (by repeat (first | (with_reducible first | exact Below.refl _ _ | refine Below.drew ?_ | refine below_drewN ?_ _) | ((with_reducible first | refine Lc ?_ ?_ _ | refine Ls ?_ ?_ _ | refine Lv (by assumption) ?_ ?_); · first | exact Nat.le_refl _ | omega | (simp; done) | (simp; omega) | (simp at *; omega)))))
    have f0 : w1.cell? ⟨W.heap.size + 1, 0, none⟩ = some (.int .i64 (f : Int)) := Kb hb1 (by (repeat' refine And.intro ?_ ?_) <;> (repeat (first | with_reducible assumption | (simp; done) | (with_reducible first | refine Kd ?_ | refine Kn ?_ | refine Kb (by assumption) ?_) | ((with_reducible first | refine Kw ?_ ?_ | refine Fw ?_) <;> first | with_reducible rfl | (simp; done)) | (with_reducible first | refine Ka _ ?_ | refine Ks _ (by first | exact Nat.le_refl _ | omega | (simp; done) | (simp; omega)) ?_ | refine Fd ?_ | refine Fn ?_ | refine Fb (by assumption) (by first | exact Nat.le_refl _ | omega | (simp; done) | (simp; omega)) ?_ | refine Fa _ (by first | exact Nat.le_refl _ | omega | (simp; done) | (simp; omega)) ?_ | refine Fs _ ?_))))
    have hs1 := hb1.size
    simp only [World.size_alloc, World.size_drew] at hs1
    obtain ⟨hok, -, hft, htn, hrd⟩ := Rw.ask_ok h0
    have HFI := Lib.hid (Rw.fin_of hok hrd)
    have hn6 := hok.n6
    have hfn : f ≤ r.n := by omega
    have HL := Lib.hid hd.l
    have HC := Lib.hid hd.a.a.c0
    have hdlt := hd.lt
    clear h0 hd ho hb1 hok hrd
    cases most with
    | true =>
      go_wp2_with fail
      obtain ⟨wx, hwx⟩ : ∃ wx, wx = w1.alloc (.cells #[.pointer (some ⟨db, 0, none⟩)] 134) := ⟨_, rfl⟩
      rw [← hwx]
      have hbx : Below w1.heap.size w1 wx := hwx ▸ ((Below.refl _ _).alloc (Nat.le_refl _) _)
      have t0 : wx.cell? ⟨w1.heap.size, 0, none⟩ = some (.pointer (some ⟨db, 0, none⟩)) := by rw [hwx]; exact (by (repeat' refine And.intro ?_ ?_) <;> (repeat (first | with_reducible assumption | (simp; done) | (with_reducible first | refine Kd ?_ | refine Kn ?_ | refine Kb (by assumption) ?_) | ((with_reducible first | refine Kw ?_ ?_ | refine Fw ?_) <;> first | with_reducible rfl | (simp; done)) | (with_reducible first | refine Ka _ ?_ | refine Ks _ (by first | exact Nat.le_refl _ | omega | (simp; done) | (simp; omega)) ?_ | refine Fd ?_ | refine Fn ?_ | refine Fb (by assumption) (by first | exact Nat.le_refl _ | omega | (simp; done) | (simp; omega)) ?_ | refine Fa _ (by first | exact Nat.le_refl _ | omega | (simp; done) | (simp; omega)) ?_ | refine Fs _ ?_))))
      have g0 : wx.cell? ⟨W.heap.size + 1, 0, none⟩ = some (.int .i64 (f : Int)) := Kb hbx f0
      have hsx : w1.heap.size < wx.heap.size := World.block_lt_of_cell? wx _ t0
      clear hwx
      refine (contents_any r.n hn6 (r.search.1.L f) (fun p hp => ?_) 102 #[.pointer (some ⟨w1.heap.size, 0, none⟩), .pointer (some ⟨W.heap.size + 1, 0, none⟩)] (enters_of Tryz.func102 (by kernel_rfl) rfl) db bA bc wx (cell_same (hbx.block db hdlt) HC.out) (fun p hp w hb => ?_)).mono ?_
      · have := HFI.out.d f p hfn hp
        omega
      · exact reach1_any r.n f p hn6 hfn hp _ _ _ db w (Kb hb t0) (Kb hb g0) (HL.out.same ((hb.block db (by omega)).trans (hbx.block db hdlt)))
      rintro e w2 ⟨A2, c2, rfl, ho2, hb2⟩
      have HO2 := Lib.hid ho2
      have HB2 := Lib.hid ((HB1.out.trans (hbx.mono (by omega))).trans (hb2.mono (by omega)))
      clear ho2 hb2 hbx t0 g0 f0
      go_wp2_with fail
      go_ret2
      exact ⟨A2, c2, rfl, owns_low (by omega) HO2.out, HB2.out⟩
    | false =>
      go_wp2_with fail
      obtain ⟨wx, hwx⟩ : ∃ wx, wx = w1.alloc (.cells #[.pointer (some ⟨db, 0, none⟩)] 134) := ⟨_, rfl⟩
      rw [← hwx]
      have hbx : Below w1.heap.size w1 wx := hwx ▸ ((Below.refl _ _).alloc (Nat.le_refl _) _)
      have t0 : wx.cell? ⟨w1.heap.size, 0, none⟩ = some (.pointer (some ⟨db, 0, none⟩)) := by rw [hwx]; exact (by (repeat' refine And.intro ?_ ?_) <;> (repeat (first | with_reducible assumption | (simp; done) | (with_reducible first | refine Kd ?_ | refine Kn ?_ | refine Kb (by assumption) ?_) | ((with_reducible first | refine Kw ?_ ?_ | refine Fw ?_) <;> first | with_reducible rfl | (simp; done)) | (with_reducible first | refine Ka _ ?_ | refine Ks _ (by first | exact Nat.le_refl _ | omega | (simp; done) | (simp; omega)) ?_ | refine Fd ?_ | refine Fn ?_ | refine Fb (by assumption) (by first | exact Nat.le_refl _ | omega | (simp; done) | (simp; omega)) ?_ | refine Fa _ (by first | exact Nat.le_refl _ | omega | (simp; done) | (simp; omega)) ?_ | refine Fs _ ?_))))
      have g0 : wx.cell? ⟨W.heap.size + 1, 0, none⟩ = some (.int .i64 (f : Int)) := Kb hbx f0
      have hsx : w1.heap.size < wx.heap.size := World.block_lt_of_cell? wx _ t0
      clear hwx
      refine (contents_any r.n hn6 (fun p => -r.search.1.L p f) (fun p hp => ?_) 103 #[.pointer (some ⟨w1.heap.size, 0, none⟩), .pointer (some ⟨W.heap.size + 1, 0, none⟩)] (enters_of Tryz.func103 (by kernel_rfl) rfl) db bA bc wx (cell_same (hbx.block db hdlt) HC.out) (fun p hp w hb => ?_)).mono ?_
      · have := HFI.out.d p f hp hfn
        omega
      · have := HFI.out.d p f hp hfn
        exact reach2_any r.n f p hn6 hfn hp _ (by omega) _ _ db w (Kb hb t0) (Kb hb g0) (HL.out.same ((hb.block db (by omega)).trans (hbx.block db hdlt)))
      rintro e w2 ⟨A2, c2, rfl, ho2, hb2⟩
      have HO2 := Lib.hid ho2
      have HB2 := Lib.hid ((HB1.out.trans (hbx.mono (by omega))).trans (hb2.mono (by omega)))
      clear ho2 hb2 hbx t0 g0 f0
      go_wp2_with fail
      go_ret2
      exact ⟨A2, c2, rfl, owns_low (by omega) HO2.out, HB2.out⟩
  · exact absurd HE.out h0
end Go.Proofs.YtnnikeolgknfoaaGreat

set_option linter.unusedSimpArgs false
set_option linter.unusedVariables false
namespace Go.Proofs.YtnnikeolgknfoaaGreat
open Go.RowKit Go.Shelf

theorem pre_bd {X : Nat → Int} {n : Nat} (hn : n ≤ 6) (hX : ∀ k, k < n → -100000 ≤ X k ∧ X k ≤ 100000) {p : Nat} (hp : p ≤ n) : -600000 ≤ pre X p ∧ pre X p ≤ 600000 := by
  have h := sumN_bdm (X := X) (c := 100000) (by omega) p (fun j hj => hX j (by omega))
  have : (100000 : Int) * p ≤ 600000 := by omega
  unfold pre
  omega

set_option maxRecDepth 100000 in
set_option maxHeartbeats 4000000 in
theorem total_any (n a b : Nat) (hn : n ≤ 6) (hab : a ≤ b) (hb : b < n) (X : Nat → Int) (hX : ∀ k, k < n → -100000 ≤ X k ∧ X k ≤ 100000) (xA : Option Addr) (xc : Nat) (W : World) (hx : IntRow W W.heap.size xA n X) :
    Calls Tryz.prog 65 #[.slice xA n xc, .int .i64 a, .int .i64 b] W fun e W' => e = .returned (.int .i64 (pre X (b + 1) - pre X a)) ∧ Below W.heap.size W W' := by
  have HI := Lib.hid hx
  have HX := Lib.hid hX
  clear hx hX
  have hg1 : ((b : Int) ≥ (n : Int)) = False := by simp; omega
  have h0 : ¬ ((a : Int) < 0) := by omega
  have hbn : ¬ ((n : Int) ≤ (b : Int)) := by omega
  go_enter Tryz.func65, Tryz.ntmps65
  go_wp2_with fail
  go_loopw [7, 8] (fun t i wr => ∃ k : Nat, a ≤ k ∧ k ≤ b + 1 ∧ i = .int .i64 k ∧ t = .int .i64 (pre X k - pre X a) ∧ Hid (Below W.heap.size W wr)) (fun _ i _ => b + 1 - (intOf i).toNat)
  case atStart => exact ⟨a, Nat.le_refl _, by omega, rfl, by rw [Int.sub_self], Lib.hid (by repeat (first | (with_reducible first | exact Below.refl _ _ | refine Below.drew ?_ | refine below_drewN ?_ _) | ((with_reducible first | refine Lc ?_ ?_ _ | refine Ls ?_ ?_ _ | refine Lv (by assumption) ?_ ?_); · first | exact Nat.le_refl _ | omega | (simp; done) | (simp; omega) | (simp at *; omega))))⟩
  case round =>
    obtain ⟨k, hk1, hk2, rfl, rfl, HB⟩ := hrel
    by_cases hlt : k ≤ b
    · have hkb : (k : Int) ≤ (b : Int) := by omega
      have hk0 : (0 : Int) ≤ (k : Int) := by omega
      have hkn : (k : Int) < (n : Int) := by omega
      have ek : IntKind.i64.wrap ((k : Int) + 1) = (k : Int) + 1 := IntWalk.i64_in _ (by omega)
      have p1 := pre_bd hn HX.out (show k ≤ n by omega)
      have p2 := pre_bd hn HX.out (show a ≤ n by omega)
      have p3 := HX.out k (by omega)
      have es : IntKind.i64.wrap (pre X k - pre X a + X k) = pre X k - pre X a + X k := IntWalk.i64_in _ (by omega)
      obtain ⟨xb, xo, rfl, hxl, hcx⟩ := (HI.out.below HB.out) k (by omega)
      clear p1 p2 p3
      go_wp2_with fail
      go_roundw
      case rel => exact ⟨k + 1, by omega, by omega, by go_num, by have hs : pre X k - pre X a + X k = pre X (k + 1) - pre X a := (by show _ = (pre X k + X k) - pre X a; omega); rw [← hs], HB⟩
      case measure => simp [intOf]; omega
    · obtain rfl : k = b + 1 := by omega
      have hge : ¬ ((b : Int) + 1 ≤ (b : Int)) := by omega
      go_wp2_with fail
      go_ret
      exact ⟨rfl, HB.out⟩

set_option maxRecDepth 100000 in
set_option maxHeartbeats 4000000 in
theorem within_any (z : Int) (s : Sp) (W : World) :
    Calls Tryz.prog 64 #[.int .i64 z, spV s] W fun e W' => e = .returned (.bool (inB z s.a s.b)) ∧ Below W.heap.size W W' := by
  go_enter Tryz.func64, Tryz.ntmps64
  by_cases h1 : s.a ≤ z
  · by_cases h2 : z ≤ s.b
    · go_wp2_with fail
      go_ret
      exact ⟨by unfold inB; simp [h1, h2], (by repeat (first | (with_reducible first | exact Below.refl _ _ | refine Below.drew ?_ | refine below_drewN ?_ _) | ((with_reducible first | refine Lc ?_ ?_ _ | refine Ls ?_ ?_ _ | refine Lv (by assumption) ?_ ?_); · first | exact Nat.le_refl _ | omega | (simp; done) | (simp; omega) | (simp at *; omega))))⟩
    · go_wp2_with fail
      go_ret
      exact ⟨by unfold inB; simp [h1, h2], (by repeat (first | (with_reducible first | exact Below.refl _ _ | refine Below.drew ?_ | refine below_drewN ?_ _) | ((with_reducible first | refine Lc ?_ ?_ _ | refine Ls ?_ ?_ _ | refine Lv (by assumption) ?_ ?_); · first | exact Nat.le_refl _ | omega | (simp; done) | (simp; omega) | (simp at *; omega))))⟩
  · go_wp2_with fail
    go_ret
    exact ⟨by unfold inB; simp [h1]; try omega, (by repeat (first | (with_reducible first | exact Below.refl _ _ | refine Below.drew ?_ | refine below_drewN ?_ _) | ((with_reducible first | refine Lc ?_ ?_ _ | refine Ls ?_ ?_ _ | refine Lv (by assumption) ?_ ?_); · first | exact Nat.le_refl _ | omega | (simp; done) | (simp; omega) | (simp at *; omega))))⟩
end Go.Proofs.YtnnikeolgknfoaaGreat

set_option linter.unusedSimpArgs false
set_option linter.unusedVariables false
namespace Go.Proofs.YtnnikeolgknfoaaGreat

theorem Chain.allT {r : Rw} : ∀ {l : List Fc} {a b : Nat}, Chain r a b l → ∀ f, f ∈ l → r.has f
  | f :: l, a, b, h, g, hg => by
    rcases List.mem_cons.1 hg with rfl | hg
    · exact h.1
    · exact Chain.allT h.2.2 g hg
/-- a walk followed -/
theorem fol_chainT {r : Rw} (hr : r.ok) {P : Nat → Fc} : ∀ (l : List Fc) (k : Nat) (a b : Nat) (s x0 y0 : Int), (∀ j, j < l.length → P (k + j) = l.getD j fc0) → Chain r a b l → r.fol P k = some (x0, y0, s) → (k ≠ 0 → y0 = (a : Int)) → 0 < k + l.length →
    r.fol P (k + l.length) = some (if k = 0 then (a : Int) else x0, (b : Int), s + wsum r l)
  | [], k, a, b, s, x0, y0, hP, hc, hf, h0, hpos => by
    have : a = b := hc
    subst this
    have hk : k ≠ 0 := by simp at hpos; omega
    rw [if_neg hk, ← h0 hk]
    show r.fol P k = some (x0, y0, s + 0)
    rw [hf, Int.add_zero]
  | f :: l, k, a, b, s, x0, y0, hP, hc, hf, h0, hpos => by
    obtain ⟨h1, h2, h3⟩ := hc
    have hbd := Rw.ab_bd hr h1
    have hpk : P k = f := hP 0 (by simp)
    have hfr : r.from_ f = (a : Int) := by rw [← hbd.2.2.2.2.2.1, h2]
    have hto : r.to_ f = ((r.b f : Nat) : Int) := hbd.2.2.2.2.2.2.symm
    have hstep : r.fol P (k + 1) = some (if k = 0 then (a : Int) else x0, ((r.b f : Nat) : Int), s + r.num f) := by
      unfold Rw.fol
      rw [hf]
      dsimp only
      rw [hpk, hfr, hto]
      by_cases e : k = 0
      · simp [e]
      · simp [e, h0 e]
    have g1 := fol_chainT hr l (k + 1) (r.b f) b (s + r.num f) (if k = 0 then (a : Int) else x0) ((r.b f : Nat) : Int) (fun j hj => by
      have := hP (j + 1) (by simp; omega)
      rw [show k + 1 + j = k + (j + 1) by omega, this]
      rfl) h3 hstep (fun _ => rfl) (by omega)
    rw [List.length_cons, show k + (l.length + 1) = k + 1 + l.length by omega, g1, if_neg (by omega)]
    show some (_, (b : Int), s + r.num f + wsum r l) = some (_, (b : Int), s + (r.num f + wsum r l))
    rw [Int.add_assoc]
/-- a walk from where to where it must lead shows its number -/
theorem shows_ways {r : Rw} (hr : r.ok) {P : Nat → Fc} {l : List Fc} {f t : Nat} (most : Bool) (hft : f ≤ t) (ht : t < r.n) {x y : Nat} (hx : x = if most then f else t + 1) (hy : y = if most then t + 1 else f) (hP : ∀ j, j < l.length → P j = l.getD j fc0) (hc : Chain r x y l) (hl : l.length ≤ 20) : r.showsR (f : Int) (t : Int) most l.length P = (if most then wsum r l else -wsum r l, 0) := by
  have hne : 0 < l.length := by
    cases l with
    | nil =>
      have h : x = y := hc
      rw [hx, hy] at h
      cases most <;> simp at h <;> omega
    | cons x y => simp
  have hf := fol_chainT (P := P) hr l 0 x y 0 0 0 (fun j hj => by rw [Nat.zero_add]; exact hP j hj) hc rfl (fun e => absurd rfl e) (by omega)
  rw [Nat.zero_add, if_pos rfl, Int.zero_add] at hf
  have hb : r.binsErr (f : Int) (t : Int) = 0 := by
    unfold Rw.binsErr
    rw [if_neg (by simp only [inB]; simp; omega), if_neg (by omega)]
  have hk : r.knownErr l.length P = 0 := by
    unfold Rw.knownErr
    rw [if_neg (by omega), if_neg ?_]
    have : allN (fun k => r.knows (P k)) l.length = true := allN_iff.2 (fun k hk => by
      have hm : l.getD k fc0 ∈ l := by
        rw [List.getD_eq_getElem?_getD, List.getElem?_eq_getElem hk]
        exact List.getElem_mem hk
      have hh := Chain.allT hc _ hm
      rw [hP k hk]
      exact Rw.knows_iff.2 hh)
    rw [this]
    decide
  unfold Rw.showsR
  rw [if_neg (by rw [Rw.check_ok.2 hr]; decide), if_neg (by rw [hb]; decide), if_neg (by rw [hk]; decide)]
  have hfr : r.followR P l.length = ((x : Int), (y : Int), wsum r l, true) := by
    unfold Rw.followR
    rw [hf]
    simp [hne]
  rw [hfr, if_pos ⟨rfl, by unfold waysR; rw [hx]; cases most <;> simp, by unfold waysR; rw [hy]; cases most <;> simp⟩]

/-- what all contents that are tried must be -/
def bdX (n : Nat) (X : Nat → Int) : Prop := ∀ k, k < n → -100000 ≤ X k ∧ X k ≤ 100000
theorem Rw.told_in {r : Rw} (hr : r.ok) {X : Nat → Int} (hX : r.fits X) {a b : Nat} (hab : a ≤ b) (hb : b < r.n) : inB (pre X (b + 1) - pre X a) (r.span a b).a (r.span a b).b = true := by
  have hf := Rw.fin_nil hr (Rw.fits_round hr hX)
  have h1 := hf.bound hX (show a ≤ r.n by omega) (show b + 1 ≤ r.n by omega)
  have h2 := hf.bound hX (show b + 1 ≤ r.n by omega) (show a ≤ r.n by omega)
  exact inB_iff.2 ⟨by show -_ ≤ _; omega, h1⟩
theorem Rw.reach_fits {r : Rw} (hr : r.ok) (h : r.round = []) {f : Nat} (hf : f ≤ r.n) (most : Bool) : r.fits (byPre (r.reachY f most)) := by
  have hF := Rw.fin_nil hr h
  cases most with
  | true => exact hF.fits_from hr hf
  | false => exact hF.fits_to hr hf
theorem Rw.reach_bd {r : Rw} (hr : r.ok) (h : r.round = []) {f : Nat} (hf : f ≤ r.n) (most : Bool) : bdX r.n (byPre (r.reachY f most)) := fun k hk => by
  have hF := Rw.fin_nil hr h
  cases most with
  | true =>
    have h1 := hF.d f k hf (by omega)
    have h2 := hF.d f (k + 1) hf (by omega)
    show -100000 ≤ r.search.1.L f (k + 1) - r.search.1.L f k ∧ r.search.1.L f (k + 1) - r.search.1.L f k ≤ 100000
    omega
  | false =>
    have h1 := hF.d k f (by omega) hf
    have h2 := hF.d (k + 1) f (by omega) hf
    show -100000 ≤ -r.search.1.L (k + 1) f - -r.search.1.L k f ∧ -r.search.1.L (k + 1) f - -r.search.1.L k f ≤ 100000
    omega
theorem Rw.reach_sum {r : Rw} (hr : r.ok) (h : r.round = []) {a b : Nat} (hab : a ≤ b) (hb : b < r.n) (most : Bool) : pre (byPre (r.reachY a most)) (b + 1) - pre (byPre (r.reachY a most)) a = if most then (r.span a b).b else (r.span a b).a := by
  have hF := Rw.fin_nil hr h
  have hz := hF.z a (by omega)
  rw [pre_by, pre_by]
  cases most with
  | true =>
    show r.search.1.L a (b + 1) - r.search.1.L a 0 - (r.search.1.L a a - r.search.1.L a 0) = r.search.1.L a (b + 1)
    omega
  | false =>
    show -r.search.1.L (b + 1) a - -r.search.1.L 0 a - (-r.search.1.L a a - -r.search.1.L 0 a) = -r.search.1.L (b + 1) a
    omega
theorem Rw.truth_fits {r : Rw} (hr : r.ok) (h : r.round = []) : r.fits (byPre (r.search.1.L 0)) := (Rw.fin_nil hr h).fits_from hr (Nat.zero_le _)
theorem Rw.truth_bd {r : Rw} (hr : r.ok) (h : r.round = []) : bdX r.n (byPre (r.search.1.L 0)) := Rw.reach_bd (f := 0) hr h (Nat.zero_le _) true
end Go.Proofs.YtnnikeolgknfoaaGreat

set_option linter.unusedSimpArgs false
set_option linter.unusedVariables false
namespace Go.Proofs.YtnnikeolgknfoaaGreat

/-- contents agree with a weighing -/
def wgSo (X : Nat → Int) (v : Wg) : Prop := v.p - v.e ≤ pre X (v.t.toNat + 1) - pre X v.f.toNat ∧ pre X (v.t.toNat + 1) - pre X v.f.toNat ≤ v.p + v.e
/-- contents agree with the bins and the weighings that are not out -/
def Rw.fitsO (r : Rw) (out : Nat → Bool) (X : Nat → Int) : Prop := (∀ i, i < r.n → (r.sp i).a ≤ X i ∧ X i ≤ (r.sp i).b) ∧ ∀ i, i < r.m → out i = false → wgSo X (r.V i)
theorem Rw.fitsO_mono {r : Rw} {o o' : Nat → Bool} {X : Nat → Int} (h : r.fitsO o X) (hs : ∀ i, i < r.m → o i = true → o' i = true) : r.fitsO o' X :=
  ⟨h.1, fun i hi ho => h.2 i hi (by
    cases e : o i with
    | false => rfl
    | true => rw [hs i hi e] at ho; cases ho)⟩
theorem Rw.torn_iffT {r : Rw} (hr : r.ok) : r.torn = true ↔ ¬ ∃ X, r.fits X := by
  have hi : r.round = [] ↔ ∃ X, r.fits X := ⟨fun h => ⟨_, (Rw.fin_nil hr h).fits_from hr (s := 0) (by omega)⟩, fun ⟨X, hX⟩ => Rw.fits_round hr hX⟩
  rw [← hi]
  unfold Rw.torn Rw.fitErr
  rw [if_neg (by rw [Rw.check_ok.2 hr]; decide)]
  by_cases h : r.round = []
  · rw [if_pos (by rw [h]; rfl)]
    simp [h]
  · rw [if_neg (fun e => h (List.length_eq_zero_iff.1 e))]
    simp [h]
theorem twk_mem {l : List Wg} {x : Wg} : ∀ k, k ≤ l.length → twk l x k = true → x ∈ l
  | 0, _, h => by cases h
  | k + 1, hk, h => by
    unfold twk at h
    rcases Bool.or_eq_true_iff.1 h with h | h
    · exact twk_mem k (by omega) h
    · have h := of_decide_eq_true h
      rw [List.getD_eq_getElem?_getD, List.getElem?_eq_getElem (show k < l.length by omega), Option.getD_some] at h
      rw [← h]
      exact List.getElem_mem _
theorem wthL_has {V : Nat → Wg} {out : Nat → Bool} : ∀ k j, j < k → out j = false → V j ∈ wthL V out k
  | 0, j, hj, _ => absurd hj (by omega)
  | k + 1, j, hj, ho => by
    unfold wthL
    by_cases e : j = k
    · subst e
      split
      · exact List.mem_append_right _ (by simp)
      · rename_i hc
        rw [ho] at hc
        simp only [Bool.not_false, Bool.true_and, Bool.not_eq_true', Bool.not_eq_false] at hc
        exact twk_mem _ (Nat.le_refl _) hc
    · have ih := wthL_has (V := V) k j (by omega) ho
      split
      · exact List.mem_append_left _ ih
      · exact ih
theorem Rw.fits_wgT {r : Rw} (hr : r.ok) {X : Nat → Int} (h : r.fits X) {i : Nat} (hi : i < r.m) : (r.V i).p - (r.V i).e ≤ pre X ((r.V i).t.toNat + 1) - pre X (r.V i).f.toNat ∧ pre X ((r.V i).t.toNat + 1) - pre X (r.V i).f.toNat ≤ (r.V i).p + (r.V i).e := by
  have a := h ⟨true, i, true⟩ ⟨by show (0 : Int) ≤ (i : Int); omega, by simp only [if_true]; omega⟩
  have b := h ⟨true, i, false⟩ ⟨by show (0 : Int) ≤ (i : Int); omega, by simp only [if_true]; omega⟩
  have hv := hr.v i hi
  have h0 := hv.f
  have h1 := hv.ft
  have e : ((r.V i).t + 1).toNat = (r.V i).t.toNat + 1 := by omega
  unfold Rw.so Rw.b Rw.a Rw.to_ Rw.from_ Rw.num Rw.fa Rw.fb Rw.lo Rw.hi at a b
  simp [e] at a b
  omega
/-- what is left of a row fits where its bins and the weighings that are not out do -/
theorem Rw.wo_fits {r : Rw} (hr : r.ok) (out : Nat → Bool) (X : Nat → Int) : (r.wo out).fits X ↔ r.fitsO out X := by
  have hro := Rw.wo_ok hr out
  constructor
  · intro h
    refine ⟨fun i hi => Rw.fits_sp hro h (i := i) hi, fun i hi ho => ?_⟩
    have hm := wthL_has (V := r.V) r.m i hi ho
    obtain ⟨k, hk, he⟩ := List.getElem_of_mem hm
    have hw := Rw.fits_wgT hro h (i := k) hk
    have hv : (r.wo out).V k = r.V i := by
      show (wthL r.V out r.m).getD k wg0 = _
      rw [List.getD_eq_getElem?_getD, List.getElem?_eq_getElem hk, Option.getD_some, he]
    rw [hv] at hw
    exact hw
  · intro h
    refine Rw.fits_of h.1 (fun k hk => ?_) (fun k hk => ?_)
    · obtain ⟨j, hj, ho, e⟩ := Rw.wo_V hk
      rw [e]
      exact h.2 j hj ho
    · obtain ⟨j, hj, ho, e⟩ := Rw.wo_V hk
      rw [e]
      exact Int.le_trans (hr.v j hj).f (hr.v j hj).ft
end Go.Proofs.YtnnikeolgknfoaaGreat

set_option linter.unusedSimpArgs false
set_option linter.unusedVariables false
namespace Go.Proofs.YtnnikeolgknfoaaGreat
open Go.RowKit Go.Shelf

set_option maxRecDepth 100000 in
set_option maxHeartbeats 4000000 in
theorem Reach_no (r : Rw) (f t : Int) (most : Bool) (h : r.askErr f t ≠ 0) (bA dA vA : Option Addr) (bc dc vc : Nat) (W : World) (hrow : RwRow W W.heap.size r bA bc dA dc vA vc) :
    Calls Tryz.prog 33 #[rwV bA r.n bc dA r.d dc vA r.m vc, .int .i64 f, .int .i64 t, .bool most] W (fun e W' => e = .returned (.tuple #[.slice none 0 0, .int .i64 (r.askErr f t)]) ∧ Below W.heap.size W W') := by
  have H0 := Lib.hid hrow
  have HE := Lib.hid h
  have hne : (r.askErr f t != 0) = true := by simpa using h
  clear hrow h
  go_enter Tryz.func33, Tryz.ntmps33
  go_wp2_with fail
  refine (asked_any r f t bA dA vA bc dc vc _ ((H0.out.later (by repeat (first | (with_reducible first | exact Below.refl _ _ | assumption | refine Below.drew ?_) | ((with_reducible first | refine Lc ?_ ?_ _ | refine Ls ?_ ?_ _ | refine Lv (by assumption) ?_ ?_); · first | exact Nat.le_refl _ | omega | (dsimp only; omega) | (simp only [World.size_alloc, World.size_drew, World.heap_drewN]; omega) | (simp; omega))))).up (by first | exact Nat.le_refl _ | omega | (simp; done) | (simp; omega) | (simp at *; omega)) (by first | exact Nat.le_refl _ | omega | (simp; done) | (simp; omega) | (simp at *; omega)))).mono ?_
  rintro e w1 (⟨h0, db, A, c, rfl, hdb, hd, ho, hb1⟩ | ⟨h0, rfl, hb1⟩)
  · exact absurd h0 HE.out
  · have HB1 := Lib.hid (show Below W.heap.size W w1 from (by repeat (first | (with_reducible first | exact Below.refl _ _ | refine Below.drew ?_ | refine below_drewN ?_ _) | ((with_reducible first | refine Lc ?_ ?_ _ | refine Ls ?_ ?_ _ | refine Lv (by assumption) ?_ ?_); · first | exact Nat.le_refl _ | omega | (simp; done) | (simp; omega) | (simp at *; omega)))))
    clear hb1 h0
    go_wp2_with fail
    go_ret2
    exact ⟨rfl, by first | exact HB1.out | exact HB1.out.alloc HB1.out.size _⟩

/-- what a weighing's bins hold -/
theorem pre_bd6 {n : Nat} (hn : n ≤ 6) {X : Nat → Int} (hX : bdX n X) : ∀ p, p ≤ n → -100000 * (p : Int) ≤ pre X p ∧ pre X p ≤ 100000 * (p : Int)
  | 0, _ => by unfold pre; simp [sumN]
  | p + 1, hp => by
    have ih := pre_bd6 hn hX p (by omega)
    have := hX p (by omega)
    show -100000 * ((p + 1 : Nat) : Int) ≤ pre X p + X p ∧ pre X p + X p ≤ 100000 * ((p + 1 : Nat) : Int)
    omega

set_option maxRecDepth 100000 in
set_option maxHeartbeats 8000000 in
theorem rFits_any (r : Rw) (hr : r.ok) (X : Nat → Int) (hX : bdX r.n X) (hfit : r.fits X) (xA : Option Addr) (xc : Nat) (bA dA vA : Option Addr) (bc dc vc : Nat) (W : World) (hrow : RwRow W W.heap.size r bA bc dA dc vA vc) (hx : IntRow W W.heap.size xA r.n X) :
    Calls Tryz.prog 34 #[rwV bA r.n bc dA r.d dc vA r.m vc, .slice xA r.n xc] W fun e W' => e = .returned (.tuple #[.bool true, .int .i64 0]) ∧ Below W.heap.size W W' := by
  have H0 := Lib.hid hrow
  have HX0 := Lib.hid hx
  have HOK := Lib.hid hr
  have HBX := Lib.hid hX
  have HF := Lib.hid hfit
  have hn6 := hr.n6
  have hm10 := hr.m10
  have hck := Rw.check_ok.2 hr
  have hnn : ((r.n : Int) != (r.n : Int)) = false := by simp
  clear hrow hx hr hX hfit
  go_enter Tryz.func34, Tryz.ntmps34
  go_wp2_with fail
  refine (rcheck_any r bA dA vA bc dc vc _ ((H0.out.later (by repeat (first | (with_reducible first | exact Below.refl _ _ | assumption | refine Below.drew ?_) | ((with_reducible first | refine Lc ?_ ?_ _ | refine Ls ?_ ?_ _ | refine Lv (by assumption) ?_ ?_); · first | exact Nat.le_refl _ | omega | (dsimp only; omega) | (simp only [World.size_alloc, World.size_drew, World.heap_drewN]; omega) | (simp; omega))))).up (by first | exact Nat.le_refl _ | omega | (simp; done) | (simp; omega) | (simp at *; omega)) (by first | exact Nat.le_refl _ | omega | (simp; done) | (simp; omega) | (simp at *; omega)))).mono ?_
  rintro e w1 ⟨rfl, hb1⟩
  rw [hck]
  have HB1 := Lib.hid (show Below W.heap.size W w1 from (by repeat (first | (with_reducible first | exact Below.refl _ _ | refine Below.drew ?_ | refine below_drewN ?_ _) | ((with_reducible first | refine Lc ?_ ?_ _ | refine Ls ?_ ?_ _ | refine Lv (by assumption) ?_ ?_); · first | exact Nat.le_refl _ | omega | (simp; done) | (simp; omega) | (simp at *; omega)))))
  have c0 : w1.cell? ⟨W.heap.size, 0, none⟩ = some (.slice bA r.n bc) := Kb hb1 (by (repeat' refine And.intro ?_ ?_) <;> (repeat (first | with_reducible assumption | (simp; done) | (with_reducible first | refine Kd ?_ | refine Kn ?_ | refine Kb (by assumption) ?_) | ((with_reducible first | refine Kw ?_ ?_ | refine Fw ?_) <;> first | with_reducible rfl | (simp; done)) | (with_reducible first | refine Ka _ ?_ | refine Ks _ (by first | exact Nat.le_refl _ | omega | (simp; done) | (simp; omega)) ?_ | refine Fd ?_ | refine Fn ?_ | refine Fb (by assumption) (by first | exact Nat.le_refl _ | omega | (simp; done) | (simp; omega)) ?_ | refine Fa _ (by first | exact Nat.le_refl _ | omega | (simp; done) | (simp; omega)) ?_ | refine Fs _ ?_))))
  have c1 : w1.cell? ⟨W.heap.size, 1, none⟩ = some (.slice dA r.d dc) := Kb hb1 (by (repeat' refine And.intro ?_ ?_) <;> (repeat (first | with_reducible assumption | (simp; done) | (with_reducible first | refine Kd ?_ | refine Kn ?_ | refine Kb (by assumption) ?_) | ((with_reducible first | refine Kw ?_ ?_ | refine Fw ?_) <;> first | with_reducible rfl | (simp; done)) | (with_reducible first | refine Ka _ ?_ | refine Ks _ (by first | exact Nat.le_refl _ | omega | (simp; done) | (simp; omega)) ?_ | refine Fd ?_ | refine Fn ?_ | refine Fb (by assumption) (by first | exact Nat.le_refl _ | omega | (simp; done) | (simp; omega)) ?_ | refine Fa _ (by first | exact Nat.le_refl _ | omega | (simp; done) | (simp; omega)) ?_ | refine Fs _ ?_))))
  have c2 : w1.cell? ⟨W.heap.size, 2, none⟩ = some (.slice vA r.m vc) := Kb hb1 (by (repeat' refine And.intro ?_ ?_) <;> (repeat (first | with_reducible assumption | (simp; done) | (with_reducible first | refine Kd ?_ | refine Kn ?_ | refine Kb (by assumption) ?_) | ((with_reducible first | refine Kw ?_ ?_ | refine Fw ?_) <;> first | with_reducible rfl | (simp; done)) | (with_reducible first | refine Ka _ ?_ | refine Ks _ (by first | exact Nat.le_refl _ | omega | (simp; done) | (simp; omega)) ?_ | refine Fd ?_ | refine Fn ?_ | refine Fb (by assumption) (by first | exact Nat.le_refl _ | omega | (simp; done) | (simp; omega)) ?_ | refine Fa _ (by first | exact Nat.le_refl _ | omega | (simp; done) | (simp; omega)) ?_ | refine Fs _ ?_))))
  have HA := Lib.hid (show RwAt w1 W.heap.size r bA bc dA dc vA vc from ⟨c0, c1, c2⟩)
  have hs1 := HB1.out.size
  clear hb1 hck
  go_wp2_with fail
  clear c0 c1 c2
  go_loopw [7] (fun i wr => ∃ k : Nat, k ≤ r.n ∧ i = .int .i64 k ∧ Hid (Below w1.heap.size w1 wr)) (fun i _ => r.n - (intOf i).toNat)
  case atStart => exact ⟨0, Nat.zero_le _, rfl, Lib.hid (Below.refl _ _)⟩
  case round =>
    obtain ⟨k, hk, rfl, HB⟩ := hrel
    obtain ⟨wo, rfl⟩ : ∃ wo, wo = wr := ⟨_, rfl⟩
    have HBW := Lib.hid (HB1.out.trans (HB.out.mono hs1))
    obtain ⟨c0, c1, c2⟩ := HA.out.later HB.out
    by_cases hlt : k < r.n
    · have hk0 : (0 : Int) ≤ (k : Int) := by omega
      have hkn : (k : Int) < (r.n : Int) := by omega
      have ek : IntKind.i64.wrap ((k : Int) + 1) = (k : Int) + 1 := IntWalk.i64_in _ (by omega)
      obtain ⟨b, o, hA', hbl, x0⟩ := (HX0.out.below HBW.out) k hlt
      subst hA'
      have hin : inB (X k) (r.sp k).a (r.sp k).b = true := inB_iff.2 (Rw.fits_sp HOK.out HF.out hlt)
      obtain ⟨s, hs⟩ : ∃ s, s = r.sp k := ⟨_, rfl⟩
      rw [← hs] at hin
      have HS := Lib.hid hs
      have HIN : Hid (∀ w, Calls Tryz.prog 89 #[.int .i64 (X k), .int .i64 s.a, .int .i64 s.b] w fun e w' => e = .returned (.bool false) ∧ Below w.heap.size w w') := Lib.hid (fun w => (off_bel _ _ _ w).mono (fun e w' hh => ⟨by rw [hh.1, hin]; rfl, hh.2⟩))
      clear hs hin
      go_wp2_with fail
      refine (rspan_any r HOK.out k hlt (bA := bA) (dA := dA) (vA := vA) (bc := bc) (dc := dc) (vc := vc) _ (H0.out.onW HBW.out)).mono ?_
      rintro e w2 ⟨rfl, hb2⟩
      rw [← HS.out]
      have HB2 := Lib.hid (HB.out.trans (hb2.mono HB.out.size))
      have x0 := Kb hb2 x0
      clear hb2 c0 c1 c2
      go_upto_region 10 with fail
      refine wp_world (fun w' => (w'.cell? ⟨w2.heap.size, 0, none⟩ = some (.int .i64 s.a) ∧ w'.cell? ⟨w2.heap.size, 1, none⟩ = some (.int .i64 s.b)) ∧ Below w2.heap.size w2 w') ⟨(by (repeat' refine And.intro ?_ ?_) <;> (repeat (first | with_reducible assumption | (simp; done) | (with_reducible first | refine Kd ?_ | refine Kn ?_ | refine Kb (by assumption) ?_) | ((with_reducible first | refine Kw ?_ ?_ | refine Fw ?_) <;> first | with_reducible rfl | (simp; done)) | (with_reducible first | refine Ka _ ?_ | refine Ks _ (by first | exact Nat.le_refl _ | omega | (simp; done) | (simp; omega)) ?_ | refine Fd ?_ | refine Fn ?_ | refine Fb (by assumption) (by first | exact Nat.le_refl _ | omega | (simp; done) | (simp; omega)) ?_ | refine Fa _ (by first | exact Nat.le_refl _ | omega | (simp; done) | (simp; omega)) ?_ | refine Fs _ ?_)))), (by repeat (first | (with_reducible first | exact Below.refl _ _ | assumption | refine Below.drew ?_) | ((with_reducible first | refine Lc ?_ ?_ _ | refine Ls ?_ ?_ _ | refine Lv (by assumption) ?_ ?_); · first | exact Nat.le_refl _ | omega | (dsimp only; omega) | (simp only [World.size_alloc, World.size_drew, World.heap_drewN]; omega) | (simp; omega))))⟩ ?_
      rintro w3 ⟨⟨s0, s1⟩, hb3⟩
      have HB3 := Lib.hid (HB2.out.trans (hb3.mono HB2.out.size))
      have y0 := cell_regrown (Kb hb3 x0)
      have y1 := cell_regrown s0
      have y2 := cell_regrown s1
      clear hb3 x0 s0 s1
      refine region_qbw (by kernel_rfl) (by kernel_rfl) ?_
      repeat (first | go_big_quiet_step ((go_at_call 89; exact Calls.regrown_of (HIN.out _))) | quiet_step ((go_at_call 89; exact Calls.regrown_of (HIN.out _))))
      refine wpQuiet_nil ?_; intro wq hbq
      have HB4 := Lib.hid (HB3.out.trans (hbq.mono HB3.out.size))
      clear y0 y1 y2 hbq
      go_wp2_with fail
      refine ⟨?_, ?measure⟩
      case measure => simp [intOf]; omega
      exact ⟨k + 1, by omega, by go_num, HB4⟩
    · obtain rfl : k = r.n := by omega
      have hge : ¬ (r.n : Int) < (r.n : Int) := by omega
      go_wp2_with fail
      clear c0 c1 c2
      go_loopw [9] (fun i wr => ∃ j : Nat, j ≤ r.m ∧ i = .int .i64 j ∧ Hid (Below w1.heap.size w1 wr)) (fun i _ => r.m - (intOf i).toNat)
      case atStart => exact ⟨0, Nat.zero_le _, rfl, HB⟩
      case round =>
        clear HB HBW
        obtain ⟨j, hj, rfl, HB⟩ := hrel
        obtain ⟨wo, rfl⟩ : ∃ wo, wo = wr := ⟨_, rfl⟩
        have HBW := Lib.hid (HB1.out.trans (HB.out.mono hs1))
        obtain ⟨c0, c1, c2⟩ := HA.out.later HB.out
        by_cases hlj : j < r.m
        · have hj0 : (0 : Int) ≤ (j : Int) := by omega
          have hjn : (j : Int) < (r.m : Int) := by omega
          have ej : IntKind.i64.wrap ((j : Int) + 1) = (j : Int) + 1 := IntWalk.i64_in _ (by omega)
          obtain ⟨b, o, hA', hbl, v0, v1, v2, v3⟩ := (H0.out.later HBW.out).v j hlj
          subst hA'
          have hv := HOK.out.v j hlj
          have hw := Rw.fits_wgT HOK.out HF.out hlj
          obtain ⟨x, hx⟩ : ∃ x, x = r.V j := ⟨_, rfl⟩
          rw [← hx] at v0 v1 v2 v3 hv hw
          obtain ⟨hp, he, hf0, hft, htn⟩ := hv
          obtain ⟨f, hff⟩ := Int.eq_ofNat_of_zero_le hf0
          obtain ⟨t, htt⟩ := Int.eq_ofNat_of_zero_le (Int.le_trans hf0 hft)
          rw [hff, htt, Int.toNat_natCast, Int.toNat_natCast] at hw
          rw [hff] at v0
          rw [htt] at v1
          have hftn : f ≤ t ∧ t < r.n := by omega
          have HW := Lib.hid hw
          clear hx hff htt hf0 hft htn hw
          go_upto_region 16 with fail
          refine wp_world (fun w' => (w'.cell? ⟨wo.heap.size, 0, none⟩ = some (.int .i64 (f : Int)) ∧ w'.cell? ⟨wo.heap.size, 1, none⟩ = some (.int .i64 (t : Int)) ∧ w'.cell? ⟨wo.heap.size, 2, none⟩ = some (.int .i64 x.p) ∧ w'.cell? ⟨wo.heap.size, 3, none⟩ = some (.int .i64 x.e)) ∧ Below wo.heap.size wo w') ⟨(by (repeat' refine And.intro ?_ ?_) <;> (repeat (first | with_reducible assumption | (simp; done) | (with_reducible first | refine Kd ?_ | refine Kn ?_ | refine Kb (by assumption) ?_) | ((with_reducible first | refine Kw ?_ ?_ | refine Fw ?_) <;> first | with_reducible rfl | (simp; done)) | (with_reducible first | refine Ka _ ?_ | refine Ks _ (by first | exact Nat.le_refl _ | omega | (simp; done) | (simp; omega)) ?_ | refine Fd ?_ | refine Fn ?_ | refine Fb (by assumption) (by first | exact Nat.le_refl _ | omega | (simp; done) | (simp; omega)) ?_ | refine Fa _ (by first | exact Nat.le_refl _ | omega | (simp; done) | (simp; omega)) ?_ | refine Fs _ ?_)))), (by repeat (first | (with_reducible first | exact Below.refl _ _ | assumption | refine Below.drew ?_) | ((with_reducible first | refine Lc ?_ ?_ _ | refine Ls ?_ ?_ _ | refine Lv (by assumption) ?_ ?_); · first | exact Nat.le_refl _ | omega | (dsimp only; omega) | (simp only [World.size_alloc, World.size_drew, World.heap_drewN]; omega) | (simp; omega))))⟩ ?_
          rintro w3 ⟨hxx, hb3⟩
          have HXX := Lib.hid hxx
          have HB3 := Lib.hid (HB.out.trans (hb3.mono HB.out.size))
          have HW3 := Lib.hid (HB1.out.trans (HB3.out.mono hs1))
          obtain ⟨x0, x1, x2, x3⟩ := hxx
          clear hb3 v0 v1 v2 v3 c0 c1 c2
          go_wp2_with fail
          go_loopw [11, 12] (fun s i wr => ∃ q : Nat, (f ≤ q ∧ q ≤ t + 1) ∧ i = .int .i64 q ∧ s = .int .i64 (pre X q - pre X f) ∧ wr = w3) (fun _ i _ => t + 1 - (intOf i).toNat)
          case atStart => exact ⟨f, by omega, rfl, by rw [Int.sub_self], rfl⟩
          case round =>
            obtain ⟨q, hq, rfl, rfl, rfl⟩ := hrel
            have hpf := pre_bd6 hn6 HBX.out f (by omega)
            have hpq := pre_bd6 hn6 HBX.out q (by omega)
            by_cases hlq : q ≤ t
            · have hq0 : (0 : Int) ≤ (q : Int) := by omega
              have hqt : (q : Int) ≤ (t : Int) := by omega
              have hqn : (q : Int) < (r.n : Int) := by omega
              have eq1 : IntKind.i64.wrap ((q : Int) + 1) = (q : Int) + 1 := IntWalk.i64_in _ (by omega)
              obtain ⟨bx, ox, hAx, hblx, z0⟩ := (HX0.out.below HW3.out) q (by omega)
              subst hAx
              have hXq := HBX.out q (by omega)
              have hps : pre X (q + 1) = pre X q + X q := rfl
              have HPS := Lib.hid hps
              obtain ⟨y, hy⟩ : ∃ y, y = pre X q - pre X f := ⟨_, rfl⟩
              have HY := Lib.hid hy
              obtain ⟨z, hz⟩ : ∃ z, z = X q := ⟨_, rfl⟩
              rw [← hz] at z0 hXq
              have HZ := Lib.hid hz
              have ew : IntKind.i64.wrap (y + z) = y + z := IntWalk.i64_in _ (by omega)
              rw [← hy]
              clear hps hy hz
              go_wp2_with fail
              refine ⟨?_, ?measure⟩
              case measure => simp [intOf]; omega
              exact ⟨q + 1, by omega, by go_num, by rw [HPS.out, HY.out, HZ.out]; congr 1; omega, (by first | rfl | trivial)⟩
            · obtain rfl : q = t + 1 := by omega
              have hqt : ¬ ((t + 1 : Nat) : Int) ≤ (t : Int) := by omega
              have hqt' : ¬ (t : Int) + 1 ≤ (t : Int) := by omega
              have hw2 := HW.out
              obtain ⟨y, hy⟩ : ∃ y, y = pre X (t + 1) - pre X f := ⟨_, rfl⟩
              rw [← hy] at hw2 ⊢
              have hin : inB (y - x.p) (-x.e) x.e = true := inB_iff.2 (by omega)
              have w1' : IntKind.i64.wrap (y - x.p) = y - x.p := IntWalk.i64_in _ (by omega)
              have w2' : IntKind.i64.wrap (-x.e) = -x.e := IntWalk.i64_in _ (by omega)
              clear hy hw2
              go_wp2_with (go_at_call 89; refine (off_any _ _ _ _).mono ?_; rintro e w' ⟨rfl, rfl⟩)
              refine ⟨?_, ?measure⟩
              case measure => simp [intOf]; omega
              exact ⟨j + 1, by omega, by go_num, HB3⟩
        · obtain rfl : j = r.m := by omega
          have hge : ¬ (r.m : Int) < (r.m : Int) := by omega
          go_wp2_with fail
          go_ret2
          exact ⟨rfl, HBW.out⟩

set_option maxRecDepth 100000 in
set_option maxHeartbeats 4000000 in
theorem rHolds_any (r : Rw) (bA dA vA : Option Addr) (bc dc vc : Nat) (W : World) (hrow : RwRow W W.heap.size r bA bc dA dc vA vc) :
    Calls Tryz.prog 36 #[rwV bA r.n bc dA r.d dc vA r.m vc] W (SpsPost r.n (fun k => r.span k k) r.fitErr W) := by
  have H0 := Lib.hid hrow
  clear hrow
  obtain ⟨i0, hi, hz0, hz1, hz2⟩ := info_parts infoSp
  go_enter Tryz.func36, Tryz.ntmps36
  go_wp2_with fail
  refine (rfitting_any r bA dA vA bc dc vc _ ((H0.out.later (by repeat (first | (with_reducible first | exact Below.refl _ _ | assumption | refine Below.drew ?_) | ((with_reducible first | refine Lc ?_ ?_ _ | refine Ls ?_ ?_ _ | refine Lv (by assumption) ?_ ?_); · first | exact Nat.le_refl _ | omega | (dsimp only; omega) | (simp only [World.size_alloc, World.size_drew, World.heap_drewN]; omega) | (simp; omega))))).up (by first | exact Nat.le_refl _ | omega | (simp; done) | (simp; omega) | (simp at *; omega)) (by first | exact Nat.le_refl _ | omega | (simp; done) | (simp; omega) | (simp at *; omega)))).mono ?_
  rintro e w1 ⟨rfl, hb1⟩
  have HB1 := Lib.hid (show Below W.heap.size W w1 from (by repeat (first | (with_reducible first | exact Below.refl _ _ | refine Below.drew ?_ | refine below_drewN ?_ _) | ((with_reducible first | refine Lc ?_ ?_ _ | refine Ls ?_ ?_ _ | refine Lv (by assumption) ?_ ?_); · first | exact Nat.le_refl _ | omega | (simp; done) | (simp; omega) | (simp at *; omega)))))
  have c0 : w1.cell? ⟨W.heap.size, 0, none⟩ = some (.slice bA r.n bc) := Kb hb1 (by (repeat' refine And.intro ?_ ?_) <;> (repeat (first | with_reducible assumption | (simp; done) | (with_reducible first | refine Kd ?_ | refine Kn ?_ | refine Kb (by assumption) ?_) | ((with_reducible first | refine Kw ?_ ?_ | refine Fw ?_) <;> first | with_reducible rfl | (simp; done)) | (with_reducible first | refine Ka _ ?_ | refine Ks _ (by first | exact Nat.le_refl _ | omega | (simp; done) | (simp; omega)) ?_ | refine Fd ?_ | refine Fn ?_ | refine Fb (by assumption) (by first | exact Nat.le_refl _ | omega | (simp; done) | (simp; omega)) ?_ | refine Fa _ (by first | exact Nat.le_refl _ | omega | (simp; done) | (simp; omega)) ?_ | refine Fs _ ?_))))
  have c1 : w1.cell? ⟨W.heap.size, 1, none⟩ = some (.slice dA r.d dc) := Kb hb1 (by (repeat' refine And.intro ?_ ?_) <;> (repeat (first | with_reducible assumption | (simp; done) | (with_reducible first | refine Kd ?_ | refine Kn ?_ | refine Kb (by assumption) ?_) | ((with_reducible first | refine Kw ?_ ?_ | refine Fw ?_) <;> first | with_reducible rfl | (simp; done)) | (with_reducible first | refine Ka _ ?_ | refine Ks _ (by first | exact Nat.le_refl _ | omega | (simp; done) | (simp; omega)) ?_ | refine Fd ?_ | refine Fn ?_ | refine Fb (by assumption) (by first | exact Nat.le_refl _ | omega | (simp; done) | (simp; omega)) ?_ | refine Fa _ (by first | exact Nat.le_refl _ | omega | (simp; done) | (simp; omega)) ?_ | refine Fs _ ?_))))
  have c2 : w1.cell? ⟨W.heap.size, 2, none⟩ = some (.slice vA r.m vc) := Kb hb1 (by (repeat' refine And.intro ?_ ?_) <;> (repeat (first | with_reducible assumption | (simp; done) | (with_reducible first | refine Kd ?_ | refine Kn ?_ | refine Kb (by assumption) ?_) | ((with_reducible first | refine Kw ?_ ?_ | refine Fw ?_) <;> first | with_reducible rfl | (simp; done)) | (with_reducible first | refine Ka _ ?_ | refine Ks _ (by first | exact Nat.le_refl _ | omega | (simp; done) | (simp; omega)) ?_ | refine Fd ?_ | refine Fn ?_ | refine Fb (by assumption) (by first | exact Nat.le_refl _ | omega | (simp; done) | (simp; omega)) ?_ | refine Fa _ (by first | exact Nat.le_refl _ | omega | (simp; done) | (simp; omega)) ?_ | refine Fs _ ?_))))
  have HA := Lib.hid (show RwAt w1 W.heap.size r bA bc dA dc vA vc from ⟨c0, c1, c2⟩)
  have hs1 := HB1.out.size
  clear hb1
  by_cases h0 : r.fitErr = 0
  · have HE := Lib.hid h0
    obtain ⟨hok, hrd⟩ := Rw.fit_ok h0
    have HOK := Lib.hid hok
    have hn6 := hok.n6
    have HRD := Lib.hid (List.length_eq_zero_iff.1 hrd)
    rw [h0]
    clear h0 hok hrd
    go_wp2_with fail
    clear c0 c1 c2
    go_loopw [5, 6] (fun v i wr => ∃ k : Nat, k ≤ r.n ∧ i = .int .i64 k ∧ Hid (wr.ownsRow w1.heap.size 49 2 v k (rowC spC (fun k => r.span k k) k)) ∧ Hid (Below w1.heap.size w1 wr)) (fun _ i _ => r.n - (intOf i).toNat)
    case atStart => exact ⟨0, Nat.zero_le _, rfl, Lib.hid (World.ownsRow_nil _ _ _ _), Lib.hid (Below.refl _ _)⟩
    case round =>
      obtain ⟨k, hk, rfl, HO, HB⟩ := hrel
      obtain ⟨wo, rfl⟩ : ∃ wo, wo = wr := ⟨_, rfl⟩
      have HBW := Lib.hid (HB1.out.trans (HB.out.mono hs1))
      obtain ⟨c0, c1, c2⟩ := HA.out.later HB.out
      have hsB := HB.out.size
      by_cases hlt : k < r.n
      · have hkn : (k : Int) < (r.n : Int) := by omega
        have hk0 : (0 : Int) ≤ (k : Int) := by omega
        have ek : IntKind.i64.wrap ((k : Int) + 1) = (k : Int) + 1 := IntWalk.i64_in _ (by omega)
        have hask := Rw.ask_zero HOK.out HRD.out (a := k) (b := k) (Nat.le_refl _) hlt
        have HSS : Hid (r.sumS (k : Int) (k : Int) = r.span k k) := Lib.hid (by unfold Rw.sumS; rw [if_pos hask]; rfl)
        go_wp2_with fail
        refine (rSum_any r (k : Int) (k : Int) bA dA vA bc dc vc _ (H0.out.onW HBW.out)).mono ?_
        rintro e w2 ⟨rfl, hb2⟩
        rw [hask, HSS.out]
        have HO2 := Lib.hid (owns_later HO.out hb2)
        have HB2 := Lib.hid (HB.out.trans (hb2.mono hsB))
        obtain ⟨s, hs⟩ : ∃ s, s = r.span k k := ⟨_, rfl⟩
        rw [← hs]
        have HS := Lib.hid hs
        clear hb2 hs c0 c1 c2 HO HB
        go_upto_region 9 with fail
        refine wp_world (fun w' => (w'.cell? ⟨w2.heap.size, 0, none⟩ = some (.int .i64 s.a) ∧ w'.cell? ⟨w2.heap.size, 1, none⟩ = some (.int .i64 s.b)) ∧ Below w2.heap.size w2 w') ⟨(by (repeat' refine And.intro ?_ ?_) <;> (repeat (first | with_reducible assumption | (simp; done) | (with_reducible first | refine Kd ?_ | refine Kn ?_ | refine Kb (by assumption) ?_) | ((with_reducible first | refine Kw ?_ ?_ | refine Fw ?_) <;> first | with_reducible rfl | (simp; done)) | (with_reducible first | refine Ka _ ?_ | refine Ks _ (by first | exact Nat.le_refl _ | omega | (simp; done) | (simp; omega)) ?_ | refine Fd ?_ | refine Fn ?_ | refine Fb (by assumption) (by first | exact Nat.le_refl _ | omega | (simp; done) | (simp; omega)) ?_ | refine Fa _ (by first | exact Nat.le_refl _ | omega | (simp; done) | (simp; omega)) ?_ | refine Fs _ ?_)))), (by repeat (first | (with_reducible first | exact Below.refl _ _ | assumption | refine Below.drew ?_) | ((with_reducible first | refine Lc ?_ ?_ _ | refine Ls ?_ ?_ _ | refine Lv (by assumption) ?_ ?_); · first | exact Nat.le_refl _ | omega | (dsimp only; omega) | (simp only [World.size_alloc, World.size_drew, World.heap_drewN]; omega) | (simp; omega))))⟩ ?_
        rintro w3 ⟨⟨s0, s1⟩, hb3⟩
        have HO3 := Lib.hid (owns_later HO2.out hb3)
        have HB3 := Lib.hid (HB2.out.trans (hb3.mono HB2.out.size))
        have hv1 := HO3.out.lt
        have hs3 := HB3.out.size
        clear hb3 HO2 HB2
        go_upto_region 7 with (at_builtin; refine wpList_append_lies _ rfl (.tmp 28) (.tmp 30) 55 rfl w1.heap.size 49 i0 (.agg #[.int .i64 0, .int .i64 0]) 2 16 sps_under hi hz0 hz1 hz2 rfl (by decide) _ k (rowC spC (fun k => r.span k k) k) rfl (HO3.out.alloc _) ⟨w3.heap.size, 0, none⟩ 1 1 (spC s) rfl rfl (new_cells (cs := spC s)) (spC_one s) (by omega) (by unfold maxLen; omega) (by omega) (by simp; omega) (w3.heap.size + 1) (by simp) ?_; intro g cap w6 hown6 hgr6 hat6 hlt6)
        have HO6 : Hid (w6.ownsRow w1.heap.size 49 2 (.slice (some ⟨g, 0, none⟩) (k + 1) cap) (k + 1) (rowC spC (fun k => r.span k k) (k + 1))) := Lib.hid (by rw [HS.out] at hown6; exact hown6)
        have HB6 : Hid (Below w1.heap.size w1 w6) := Lib.hid (Below.grown (HB3.out.alloc (by omega) _) hgr6 (by simp; omega) (fun q hq => (hv1 q hq).1))
        clear hown6 hgr6 hat6 hlt6 HO3 HB3 hv1 s0 s1
        go_wp2_with fail
        refine ⟨?_, ?measure⟩
        case measure => simp [intOf]; omega
        exact ⟨k + 1, by omega, by go_num, HO6, HB6⟩
      · obtain rfl : k = r.n := by omega
        have hge : ¬ (r.n : Int) < (r.n : Int) := by omega
        go_wp2_with fail
        go_ret2
        exact .inl ⟨HE.out, _, rfl, owns_low hs1 HO.out, HBW.out⟩
  · have hne : (r.fitErr != 0) = true := by simpa using h0
    have HE := Lib.hid h0
    clear h0
    go_wp2_with fail
    go_ret2
    exact .inr ⟨HE.out, rfl, HB1.out⟩
end Go.Proofs.YtnnikeolgknfoaaGreat
