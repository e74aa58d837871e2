/- BinTorn: the joined statement. -/
import Derived.Test.YtnnikeolgknfoaaGreatP1
import Derived.Test.YtnnikeolgknfoaaGreatE4
import Derived.Test.YtnnikeolgknfoaaGreatJa
import Derived.Test.YtnnikeolgknfoaaGreatD3
import Derived.Test.YtnnikeolgknfoaaGreatGa
import Derived.Test.YtnnikeolgknfoaaGreatVxm
import Derived.Test.YtnnikeolgknfoaaGreatVxo
import Derived.Deep.CutBlock
import Derived.ProofKit
import Derived.Deep.Slices
import Derived.Deep.Fields
import Derived.Lib.SmallJoins
import Derived.Test.YtnnikeolgknfoaaGreatRows
set_option linter.unusedSimpArgs false
set_option linter.unusedVariables false
namespace Go.Proofs.YtnnikeolgknfoaaGreat

theorem Rw.sumS_ok {r : Rw} {a b : Nat} (h : r.askErr a b = 0) : r.sumS a b = r.span a b := by unfold Rw.sumS; rw [if_pos h]; rfl
theorem Rw.fits_wg {r : Rw} (hr : r.ok) {X : Nat → Int} (h : r.fits X) {i : Nat} (hi : i < r.m) : (r.V i).p - (r.V i).e ≤ pre X ((r.V i).t.toNat + 1) - pre X (r.V i).f.toNat ∧ pre X ((r.V i).t.toNat + 1) - pre X (r.V i).f.toNat ≤ (r.V i).p + (r.V i).e := by
  have a := h ⟨true, i, true⟩ ⟨by show (0 : Int) ≤ (i : Int); omega, by simp only [if_true]; omega⟩
  have b := h ⟨true, i, false⟩ ⟨by show (0 : Int) ≤ (i : Int); omega, by simp only [if_true]; omega⟩
  have hv := hr.v i hi
  have h0 := hv.f
  have h1 := hv.ft
  have e : ((r.V i).t + 1).toNat = (r.V i).t.toNat + 1 := by omega
  unfold Rw.so Rw.b Rw.a Rw.to_ Rw.from_ Rw.num Rw.fa Rw.fb Rw.lo Rw.hi at a b
  simp [e] at a b
  omega
/-- what fits r' fits r -/
structure Rw.sub (r r' : Rw) : Prop where
  n : r.n = r'.n
  s : ∀ i, i < r.n → r.sp i = r'.sp i
  v : ∀ i, i < r.m → ∃ j, j < r'.m ∧ (r.V i).f = (r'.V j).f ∧ (r.V i).t = (r'.V j).t ∧ (r.V i).p - (r.V i).e ≤ (r'.V j).p - (r'.V j).e ∧ (r'.V j).p + (r'.V j).e ≤ (r.V i).p + (r.V i).e
theorem Rw.sub.fits {r r' : Rw} (h : r.sub r') (hr : r.ok) (hr' : r'.ok) {X : Nat → Int} (hX : r'.fits X) : r.fits X :=
  Rw.fits_of (fun i hi => by rw [h.s i hi]; exact Rw.fits_sp hr' hX (by rw [← h.n]; exact hi)) (fun i hi => by
    obtain ⟨j, hj, e1, e2, e3, e4⟩ := h.v i hi
    have := Rw.fits_wg hr' hX hj
    rw [e1, e2]
    omega) (fun i hi => by have := hr.v i hi; exact Int.le_trans this.f this.ft)
theorem Rw.sub.span {r r' : Rw} (h : r.sub r') (hr : r.ok) (hr' : r'.ok) (h0 : r.round = []) (h0' : r'.round = []) {a b : Nat} (ha : a ≤ b) (hb : b < r.n) : (r.span a b).a ≤ (r'.span a b).a ∧ (r'.span a b).b ≤ (r.span a b).b := by
  have hf := Rw.fin_nil hr h0
  have hf' := Rw.fin_nil hr' h0'
  have hn := h.n
  have x1 := hf.bound (h.fits hr hr' (hf'.fits_from hr' (s := a) (by omega))) (a := a) (b := b + 1) (by omega) (by omega)
  rw [pre_by, pre_by, hf'.z a (by omega)] at x1
  have x2 := hf.bound (h.fits hr hr' (hf'.fits_from hr' (s := b + 1) (by omega))) (a := b + 1) (b := a) (by omega) (by omega)
  rw [pre_by, pre_by, hf'.z (b + 1) (by omega)] at x2
  show -r.search.1.L (b + 1) a ≤ -r'.search.1.L (b + 1) a ∧ r'.search.1.L a (b + 1) ≤ r.search.1.L a (b + 1)
  omega
theorem Rw.sub.eq {r r' : Rw} (h : r.sub r') (k : r'.sub r) (hr : r.ok) (hr' : r'.ok) (h0 : r.round = []) (h0' : r'.round = []) {a b : Nat} (ha : a ≤ b) (hb : b < r.n) : r'.span a b = r.span a b := by
  have x := h.span hr hr' h0 h0' ha hb
  have y := k.span hr' hr h0' h0 ha (by rw [← h.n]; exact hb)
  obtain ⟨⟨p, q⟩, e⟩ : ∃ z, z = r.span a b := ⟨_, rfl⟩
  obtain ⟨⟨p', q'⟩, e'⟩ : ∃ z, z = r'.span a b := ⟨_, rfl⟩
  rw [← e, ← e'] at x y ⊢
  dsimp only at x y
  have h1 : p' = p := by omega
  have h2 : q' = q := by omega
  rw [h1, h2]
theorem Rw.ask_two {r : Rw} (hr : r.ok) {a b : Nat} (hab : a ≤ b) (hb : b < r.n) : (r.round = [] ∧ r.askErr a b = 0) ∨ r.askErr a b = 7 := by
  by_cases h : r.round = []
  · exact .inl ⟨h, Rw.ask_zero hr h hab hb⟩
  · right
    unfold Rw.askErr
    rw [if_neg (by rw [Rw.check_ok.2 hr]; decide)]
    have e : r.binsErr a b = 0 := by
      unfold Rw.binsErr
      rw [if_neg (by simp only [inB]; simp; omega), if_neg (by omega)]
    rw [if_neg (by rw [e]; decide), if_neg (by intro h2; exact h (List.length_eq_zero_iff.1 h2))]
/-- one weighing more -/
def Rw.more (r : Rw) (x : Wg) : Rw := { r with m := r.m + 1, V := fun j => if j = r.m then x else r.V j }
theorem Rw.more_ok {r : Rw} (hr : r.ok) (hm : r.m < 10) {x : Wg} (hx : x.ok r.n) : (r.more x).ok :=
  ⟨hr.n1, hr.n6, hr.d7, by show r.m + 1 ≤ 10; omega, hr.b, fun k hk => by
    show (if k = r.m then x else r.V k).ok r.n
    by_cases e : k = r.m
    · rw [if_pos e]; exact hx
    · rw [if_neg e]; exact hr.v k (by have : k < r.m + 1 := hk; omega), hr.k⟩
theorem Rw.sub_more (r : Rw) (x : Wg) : r.sub (r.more x) :=
  ⟨rfl, fun _ _ => rfl, fun i hi => ⟨i, by show i < r.m + 1; omega, by
    have e : (r.more x).V i = r.V i := by show (if i = r.m then x else r.V i) = r.V i; rw [if_neg (by omega)]
    rw [e]
    exact ⟨rfl, rfl, Int.le_refl _, Int.le_refl _⟩⟩⟩
end Go.Proofs.YtnnikeolgknfoaaGreat

set_option linter.unusedSimpArgs false
set_option linter.unusedVariables false
namespace Go.Proofs.YtnnikeolgknfoaaGreat
open Go.RowKit Go.Shelf

theorem OwnBn.below_of {w : World} {lo n : Nat} {A : Option Addr} {P : Nat → Bn} (h : OwnBn w lo A n P) (hn : 1 ≤ n) : ∀ a, A = some a → a.block < w.heap.size := fun a ha => by
  obtain ⟨b, hA, hb, h1, _⟩ := h 0 (by omega)
  rw [ha] at hA
  injection hA with hA
  subst hA
  exact World.block_lt_of_cell? w _ h1
theorem OwnInt.below_of {w : World} {lo n : Nat} {A : Option Addr} {P : Nat → Int} (h : OwnInt w lo A n P) (hn : 1 ≤ n) : ∀ a, A = some a → a.block < w.heap.size := fun a ha => by
  obtain ⟨b, hA, hb, h1, _⟩ := h 0 (by omega)
  rw [ha] at hA
  injection hA with hA
  subst hA
  exact World.block_lt_of_cell? w _ h1
def OwnPost2 (r : Rw) (W : World) (e : Ending) (W' : World) : Prop :=
  ∃ (bA dA vA : Option Addr) (bc dc vc m : Nat), e = .returned (rwV bA r.n bc dA r.d dc vA r.m vc) ∧ W.heap.size ≤ m ∧ (∀ a, bA = some a → a.block < m) ∧ (∀ a, dA = some a → a.block < m) ∧ OwnBn W' W.heap.size bA r.n r.B ∧ OwnInt W' W.heap.size dA r.d r.D ∧ W'.ownsRow m 101 4 (.slice vA r.m vc) r.m (rowC wgC r.V r.m) ∧ (r.n ≤ bc ∧ r.d ≤ dc ∧ r.m ≤ vc) ∧ Below W.heap.size W W' ∧ ∃ m0, W.heap.size ≤ m0 ∧ m0 ≤ m ∧ (∀ a, bA = some a → a.block < m0) ∧ W'.ownsRow m0 52 1 (.slice dA r.d dc) r.d (numCells r.D r.d)

set_option maxRecDepth 100000 in
set_option maxHeartbeats 4000000 in
theorem own2_any (r : Rw) (h1n : 1 ≤ r.n) (h1d : 1 ≤ r.d) (bA dA vA : Option Addr) (bc dc vc : Nat) (W : World) (hrow : RwRow W W.heap.size r bA bc dA dc vA vc) :
    Calls Tryz.prog 13 #[rwV bA r.n bc dA r.d dc vA r.m vc] W (OwnPost2 r W) := by
  have H0 := Lib.hid hrow
  have hn := hrow.n1
  have hd := hrow.d1
  have hm := hrow.m1
  clear hrow
  go_enter Tryz.func13, Tryz.ntmps13
  go_upto_region 1 with fail
  refine wp_world (fun W1 => (W1.cell? ⟨W.heap.size, 0, none⟩ = some (.slice bA r.n bc) ∧ W1.cell? ⟨W.heap.size, 1, none⟩ = some (.slice dA r.d dc) ∧ W1.cell? ⟨W.heap.size, 2, none⟩ = some (.slice vA r.m vc)) ∧ V3 W1 (W.heap.size + 1) (.slice none 0 0) (.slice none 0 0) (.slice none 0 0) ∧ Below W.heap.size W W1 ∧ W.heap.size + 2 ≤ W1.heap.size) ⟨(by (repeat' refine And.intro ?_ ?_) <;> (repeat (first | with_reducible assumption | (simp; done) | (with_reducible first | refine Kd ?_ | refine Kn ?_ | refine Kb (by assumption) ?_) | ((with_reducible first | refine Kw ?_ ?_ | refine Fw ?_) <;> first | with_reducible rfl | (simp; done)) | (with_reducible first | refine Ka _ ?_ | refine Ks _ (by first | exact Nat.le_refl _ | omega | (simp; done) | (simp; omega)) ?_ | refine Fd ?_ | refine Fn ?_ | refine Fb (by assumption) (by first | exact Nat.le_refl _ | omega | (simp; done) | (simp; omega)) ?_ | refine Fa _ (by first | exact Nat.le_refl _ | omega | (simp; done) | (simp; omega)) ?_ | refine Fs _ ?_)))), ⟨(by (repeat' refine And.intro ?_ ?_) <;> (repeat (first | with_reducible assumption | (simp; done) | (with_reducible first | refine Kd ?_ | refine Kn ?_ | refine Kb (by assumption) ?_) | ((with_reducible first | refine Kw ?_ ?_ | refine Fw ?_) <;> first | with_reducible rfl | (simp; done)) | (with_reducible first | refine Ka _ ?_ | refine Ks _ (by first | exact Nat.le_refl _ | omega | (simp; done) | (simp; omega)) ?_ | refine Fd ?_ | refine Fn ?_ | refine Fb (by assumption) (by first | exact Nat.le_refl _ | omega | (simp; done) | (simp; omega)) ?_ | refine Fa _ (by first | exact Nat.le_refl _ | omega | (simp; done) | (simp; omega)) ?_ | refine Fs _ ?_)))), (by (repeat' refine And.intro ?_ ?_) <;> (repeat (first | with_reducible assumption | (simp; done) | (with_reducible first | refine Kd ?_ | refine Kn ?_ | refine Kb (by assumption) ?_) | ((with_reducible first | refine Kw ?_ ?_ | refine Fw ?_) <;> first | with_reducible rfl | (simp; done)) | (with_reducible first | refine Ka _ ?_ | refine Ks _ (by first | exact Nat.le_refl _ | omega | (simp; done) | (simp; omega)) ?_ | refine Fd ?_ | refine Fn ?_ | refine Fb (by assumption) (by first | exact Nat.le_refl _ | omega | (simp; done) | (simp; omega)) ?_ | refine Fa _ (by first | exact Nat.le_refl _ | omega | (simp; done) | (simp; omega)) ?_ | refine Fs _ ?_)))), (by (repeat' refine And.intro ?_ ?_) <;> (repeat (first | with_reducible assumption | (simp; done) | (with_reducible first | refine Kd ?_ | refine Kn ?_ | refine Kb (by assumption) ?_) | ((with_reducible first | refine Kw ?_ ?_ | refine Fw ?_) <;> first | with_reducible rfl | (simp; done)) | (with_reducible first | refine Ka _ ?_ | refine Ks _ (by first | exact Nat.le_refl _ | omega | (simp; done) | (simp; omega)) ?_ | refine Fd ?_ | refine Fn ?_ | refine Fb (by assumption) (by first | exact Nat.le_refl _ | omega | (simp; done) | (simp; omega)) ?_ | refine Fa _ (by first | exact Nat.le_refl _ | omega | (simp; done) | (simp; omega)) ?_ | refine Fs _ ?_)))), (by (repeat' refine And.intro ?_ ?_) <;> (repeat (first | with_reducible assumption | (simp; done) | (with_reducible first | refine Kd ?_ | refine Kn ?_ | refine Kb (by assumption) ?_) | ((with_reducible first | refine Kw ?_ ?_ | refine Fw ?_) <;> first | with_reducible rfl | (simp; done)) | (with_reducible first | refine Ka _ ?_ | refine Ks _ (by first | exact Nat.le_refl _ | omega | (simp; done) | (simp; omega)) ?_ | refine Fd ?_ | refine Fn ?_ | refine Fb (by assumption) (by first | exact Nat.le_refl _ | omega | (simp; done) | (simp; omega)) ?_ | refine Fa _ (by first | exact Nat.le_refl _ | omega | (simp; done) | (simp; omega)) ?_ | refine Fs _ ?_)))), (by (repeat' refine And.intro ?_ ?_) <;> (repeat (first | with_reducible assumption | (simp; done) | (with_reducible first | refine Kd ?_ | refine Kn ?_ | refine Kb (by assumption) ?_) | ((with_reducible first | refine Kw ?_ ?_ | refine Fw ?_) <;> first | with_reducible rfl | (simp; done)) | (with_reducible first | refine Ka _ ?_ | refine Ks _ (by first | exact Nat.le_refl _ | omega | (simp; done) | (simp; omega)) ?_ | refine Fd ?_ | refine Fn ?_ | refine Fb (by assumption) (by first | exact Nat.le_refl _ | omega | (simp; done) | (simp; omega)) ?_ | refine Fa _ (by first | exact Nat.le_refl _ | omega | (simp; done) | (simp; omega)) ?_ | refine Fs _ ?_)))), (by (repeat' refine And.intro ?_ ?_) <;> (repeat (first | with_reducible assumption | (simp; done) | (with_reducible first | refine Kd ?_ | refine Kn ?_ | refine Kb (by assumption) ?_) | ((with_reducible first | refine Kw ?_ ?_ | refine Fw ?_) <;> first | with_reducible rfl | (simp; done)) | (with_reducible first | refine Ka _ ?_ | refine Ks _ (by first | exact Nat.le_refl _ | omega | (simp; done) | (simp; omega)) ?_ | refine Fd ?_ | refine Fn ?_ | refine Fb (by assumption) (by first | exact Nat.le_refl _ | omega | (simp; done) | (simp; omega)) ?_ | refine Fa _ (by first | exact Nat.le_refl _ | omega | (simp; done) | (simp; omega)) ?_ | refine Fs _ ?_))))⟩, (by repeat (first | (with_reducible first | exact Below.refl _ _ | assumption | refine Below.drew ?_) | ((with_reducible first | refine Lc ?_ ?_ _ | refine Ls ?_ ?_ _ | refine Lv (by assumption) ?_ ?_); · first | exact Nat.le_refl _ | omega | (dsimp only; omega) | (simp only [World.size_alloc, World.size_drew, World.heap_drewN]; omega) | (simp; omega)))), by simp⟩ ?_
  rintro w1 ⟨⟨c0, c1, c2⟩, hv, hb1, hs1⟩
  have HV := Lib.hid hv
  have HB1 := Lib.hid hb1
  have HR := Lib.hid (H0.out.later hb1)
  have hsW : W.heap.size ≤ w1.heap.size := by omega
  obtain ⟨r0, r1, r2, f0, f1, f2⟩ := hv
  clear hb1
  go_region_held3 (fun w' => w'.cell? ⟨W.heap.size, 0, none⟩ = some (.slice bA r.n bc) ∧ w'.cell? ⟨W.heap.size, 1, none⟩ = some (.slice dA r.d dc) ∧ w'.cell? ⟨W.heap.size, 2, none⟩ = some (.slice vA r.m vc)) ((go_split_ands; (repeat' refine And.intro ?_ ?_) <;> (repeat (first | with_reducible assumption | (simp; done) | (with_reducible first | refine Kd ?_ | refine Kn ?_ | refine Kb (by assumption) ?_) | ((with_reducible first | refine Kw ?_ ?_ | refine Fw ?_) <;> first | with_reducible rfl | (simp; done)) | (with_reducible first | refine Ka _ ?_ | refine Ks _ (by first | exact Nat.le_refl _ | omega | (simp; done) | (simp; omega)) ?_ | refine Fd ?_ | refine Fn ?_ | refine Fb (by assumption) (by first | exact Nat.le_refl _ | omega | (simp; done) | (simp; omega)) ?_ | refine Fa _ (by first | exact Nat.le_refl _ | omega | (simp; done) | (simp; omega)) ?_ | refine Fs _ ?_))))) (first | (go_at_call 68; refine (copyO_bn bA r.n bc r.B _ ((HR.out.b.below (show Below W.heap.size w1 _ from (show Below w1.heap.size w1 _ from (by repeat (first | (with_reducible first | exact Below.refl _ _ | refine Below.drew ?_ | refine below_drewN ?_ _) | ((with_reducible first | refine Lc ?_ ?_ _ | refine Ls ?_ ?_ _ | refine Lv (by assumption) ?_ ?_); · first | exact Nat.le_refl _ | omega | (simp; done) | (simp; omega) | (simp at *; omega))))).mono hsW)).mono (by first | exact Nat.le_refl _ | omega | (simp; done) | (simp; omega))) hn).mono ?_; rintro e wa ⟨hba, bA', bc', rfl, hob, hbc', hobr⟩; obtain ⟨hca, hfa⟩ := bcell hba; have hza := hba.size; (try simp only [World.size_drew, World.heap_drewN, World.size_alloc] at hza); have r0 : wa.cell? ⟨W.heap.size + 1, 0, none⟩ = some (.slice none 0 0) := (by repeat (first | with_reducible assumption | (simp; done) | (with_reducible first | refine Kd ?_ | refine Kn ?_ | refine Kb (by assumption) ?_) | ((with_reducible first | refine Kw ?_ ?_ | refine Fw ?_) <;> first | with_reducible rfl | (simp; done)) | (with_reducible first | refine Ka _ ?_ | refine Ks _ (by first | exact Nat.le_refl _ | omega | (simp; done) | (simp; omega) | (simp at *; omega)) ?_ | refine Fd ?_ | refine Fn ?_ | refine Fb (by assumption) (by first | exact Nat.le_refl _ | omega | (simp; done) | (simp; omega) | (simp at *; omega)) ?_ | refine Fa _ (by first | exact Nat.le_refl _ | omega | (simp; done) | (simp; omega) | (simp at *; omega)) ?_ | refine Fs _ ?_))); have r1 : wa.cell? ⟨W.heap.size + 1, 1, none⟩ = some (.slice none 0 0) := (by repeat (first | with_reducible assumption | (simp; done) | (with_reducible first | refine Kd ?_ | refine Kn ?_ | refine Kb (by assumption) ?_) | ((with_reducible first | refine Kw ?_ ?_ | refine Fw ?_) <;> first | with_reducible rfl | (simp; done)) | (with_reducible first | refine Ka _ ?_ | refine Ks _ (by first | exact Nat.le_refl _ | omega | (simp; done) | (simp; omega) | (simp at *; omega)) ?_ | refine Fd ?_ | refine Fn ?_ | refine Fb (by assumption) (by first | exact Nat.le_refl _ | omega | (simp; done) | (simp; omega) | (simp at *; omega)) ?_ | refine Fa _ (by first | exact Nat.le_refl _ | omega | (simp; done) | (simp; omega) | (simp at *; omega)) ?_ | refine Fs _ ?_))); have r2 : wa.cell? ⟨W.heap.size + 1, 2, none⟩ = some (.slice none 0 0) := (by repeat (first | with_reducible assumption | (simp; done) | (with_reducible first | refine Kd ?_ | refine Kn ?_ | refine Kb (by assumption) ?_) | ((with_reducible first | refine Kw ?_ ?_ | refine Fw ?_) <;> first | with_reducible rfl | (simp; done)) | (with_reducible first | refine Ka _ ?_ | refine Ks _ (by first | exact Nat.le_refl _ | omega | (simp; done) | (simp; omega) | (simp at *; omega)) ?_ | refine Fd ?_ | refine Fn ?_ | refine Fb (by assumption) (by first | exact Nat.le_refl _ | omega | (simp; done) | (simp; omega) | (simp at *; omega)) ?_ | refine Fa _ (by first | exact Nat.le_refl _ | omega | (simp; done) | (simp; omega) | (simp at *; omega)) ?_ | refine Fs _ ?_))); have f0 : wa.frozen? ⟨W.heap.size + 1, 0, none⟩ = false := (by repeat (first | with_reducible assumption | (simp; done) | (with_reducible first | refine Kd ?_ | refine Kn ?_ | refine Kb (by assumption) ?_) | ((with_reducible first | refine Kw ?_ ?_ | refine Fw ?_) <;> first | with_reducible rfl | (simp; done)) | (with_reducible first | refine Ka _ ?_ | refine Ks _ (by first | exact Nat.le_refl _ | omega | (simp; done) | (simp; omega) | (simp at *; omega)) ?_ | refine Fd ?_ | refine Fn ?_ | refine Fb (by assumption) (by first | exact Nat.le_refl _ | omega | (simp; done) | (simp; omega) | (simp at *; omega)) ?_ | refine Fa _ (by first | exact Nat.le_refl _ | omega | (simp; done) | (simp; omega) | (simp at *; omega)) ?_ | refine Fs _ ?_))); have f1 : wa.frozen? ⟨W.heap.size + 1, 1, none⟩ = false := (by repeat (first | with_reducible assumption | (simp; done) | (with_reducible first | refine Kd ?_ | refine Kn ?_ | refine Kb (by assumption) ?_) | ((with_reducible first | refine Kw ?_ ?_ | refine Fw ?_) <;> first | with_reducible rfl | (simp; done)) | (with_reducible first | refine Ka _ ?_ | refine Ks _ (by first | exact Nat.le_refl _ | omega | (simp; done) | (simp; omega) | (simp at *; omega)) ?_ | refine Fd ?_ | refine Fn ?_ | refine Fb (by assumption) (by first | exact Nat.le_refl _ | omega | (simp; done) | (simp; omega) | (simp at *; omega)) ?_ | refine Fa _ (by first | exact Nat.le_refl _ | omega | (simp; done) | (simp; omega) | (simp at *; omega)) ?_ | refine Fs _ ?_))); have f2 : wa.frozen? ⟨W.heap.size + 1, 2, none⟩ = false := (by repeat (first | with_reducible assumption | (simp; done) | (with_reducible first | refine Kd ?_ | refine Kn ?_ | refine Kb (by assumption) ?_) | ((with_reducible first | refine Kw ?_ ?_ | refine Fw ?_) <;> first | with_reducible rfl | (simp; done)) | (with_reducible first | refine Ka _ ?_ | refine Ks _ (by first | exact Nat.le_refl _ | omega | (simp; done) | (simp; omega) | (simp at *; omega)) ?_ | refine Fd ?_ | refine Fn ?_ | refine Fb (by assumption) (by first | exact Nat.le_refl _ | omega | (simp; done) | (simp; omega) | (simp at *; omega)) ?_ | refine Fa _ (by first | exact Nat.le_refl _ | omega | (simp; done) | (simp; omega) | (simp at *; omega)) ?_ | refine Fs _ ?_))); clear hca hfa) | (go_at_call 69; refine (copyO_kd dA r.d dc r.D _ ((HR.out.d.below (show Below W.heap.size w1 _ from (show Below w1.heap.size w1 _ from (by repeat (first | (with_reducible first | exact Below.refl _ _ | refine Below.drew ?_ | refine below_drewN ?_ _) | ((with_reducible first | refine Lc ?_ ?_ _ | refine Ls ?_ ?_ _ | refine Lv (by assumption) ?_ ?_); · first | exact Nat.le_refl _ | omega | (simp; done) | (simp; omega) | (simp at *; omega))))).mono hsW)).mono (by first | exact Nat.le_refl _ | omega | (simp; done) | (simp; omega))) hd).mono ?_; rintro e wd ⟨hbd, dA', dc', rfl, hod, hdc', hodr⟩; obtain ⟨hcd, hfd⟩ := bcell hbd; have hzd := hbd.size; (try simp only [World.size_drew, World.heap_drewN, World.size_alloc] at hzd); have r0 : wd.cell? ⟨W.heap.size + 1, 0, none⟩ = some (.slice none 0 0) := (by repeat (first | with_reducible assumption | (simp; done) | (with_reducible first | refine Kd ?_ | refine Kn ?_ | refine Kb (by assumption) ?_) | ((with_reducible first | refine Kw ?_ ?_ | refine Fw ?_) <;> first | with_reducible rfl | (simp; done)) | (with_reducible first | refine Ka _ ?_ | refine Ks _ (by first | exact Nat.le_refl _ | omega | (simp; done) | (simp; omega) | (simp at *; omega)) ?_ | refine Fd ?_ | refine Fn ?_ | refine Fb (by assumption) (by first | exact Nat.le_refl _ | omega | (simp; done) | (simp; omega) | (simp at *; omega)) ?_ | refine Fa _ (by first | exact Nat.le_refl _ | omega | (simp; done) | (simp; omega) | (simp at *; omega)) ?_ | refine Fs _ ?_))); have r1 : wd.cell? ⟨W.heap.size + 1, 1, none⟩ = some (.slice none 0 0) := (by repeat (first | with_reducible assumption | (simp; done) | (with_reducible first | refine Kd ?_ | refine Kn ?_ | refine Kb (by assumption) ?_) | ((with_reducible first | refine Kw ?_ ?_ | refine Fw ?_) <;> first | with_reducible rfl | (simp; done)) | (with_reducible first | refine Ka _ ?_ | refine Ks _ (by first | exact Nat.le_refl _ | omega | (simp; done) | (simp; omega) | (simp at *; omega)) ?_ | refine Fd ?_ | refine Fn ?_ | refine Fb (by assumption) (by first | exact Nat.le_refl _ | omega | (simp; done) | (simp; omega) | (simp at *; omega)) ?_ | refine Fa _ (by first | exact Nat.le_refl _ | omega | (simp; done) | (simp; omega) | (simp at *; omega)) ?_ | refine Fs _ ?_))); have r2 : wd.cell? ⟨W.heap.size + 1, 2, none⟩ = some (.slice none 0 0) := (by repeat (first | with_reducible assumption | (simp; done) | (with_reducible first | refine Kd ?_ | refine Kn ?_ | refine Kb (by assumption) ?_) | ((with_reducible first | refine Kw ?_ ?_ | refine Fw ?_) <;> first | with_reducible rfl | (simp; done)) | (with_reducible first | refine Ka _ ?_ | refine Ks _ (by first | exact Nat.le_refl _ | omega | (simp; done) | (simp; omega) | (simp at *; omega)) ?_ | refine Fd ?_ | refine Fn ?_ | refine Fb (by assumption) (by first | exact Nat.le_refl _ | omega | (simp; done) | (simp; omega) | (simp at *; omega)) ?_ | refine Fa _ (by first | exact Nat.le_refl _ | omega | (simp; done) | (simp; omega) | (simp at *; omega)) ?_ | refine Fs _ ?_))); have f0 : wd.frozen? ⟨W.heap.size + 1, 0, none⟩ = false := (by repeat (first | with_reducible assumption | (simp; done) | (with_reducible first | refine Kd ?_ | refine Kn ?_ | refine Kb (by assumption) ?_) | ((with_reducible first | refine Kw ?_ ?_ | refine Fw ?_) <;> first | with_reducible rfl | (simp; done)) | (with_reducible first | refine Ka _ ?_ | refine Ks _ (by first | exact Nat.le_refl _ | omega | (simp; done) | (simp; omega) | (simp at *; omega)) ?_ | refine Fd ?_ | refine Fn ?_ | refine Fb (by assumption) (by first | exact Nat.le_refl _ | omega | (simp; done) | (simp; omega) | (simp at *; omega)) ?_ | refine Fa _ (by first | exact Nat.le_refl _ | omega | (simp; done) | (simp; omega) | (simp at *; omega)) ?_ | refine Fs _ ?_))); have f1 : wd.frozen? ⟨W.heap.size + 1, 1, none⟩ = false := (by repeat (first | with_reducible assumption | (simp; done) | (with_reducible first | refine Kd ?_ | refine Kn ?_ | refine Kb (by assumption) ?_) | ((with_reducible first | refine Kw ?_ ?_ | refine Fw ?_) <;> first | with_reducible rfl | (simp; done)) | (with_reducible first | refine Ka _ ?_ | refine Ks _ (by first | exact Nat.le_refl _ | omega | (simp; done) | (simp; omega) | (simp at *; omega)) ?_ | refine Fd ?_ | refine Fn ?_ | refine Fb (by assumption) (by first | exact Nat.le_refl _ | omega | (simp; done) | (simp; omega) | (simp at *; omega)) ?_ | refine Fa _ (by first | exact Nat.le_refl _ | omega | (simp; done) | (simp; omega) | (simp at *; omega)) ?_ | refine Fs _ ?_))); have f2 : wd.frozen? ⟨W.heap.size + 1, 2, none⟩ = false := (by repeat (first | with_reducible assumption | (simp; done) | (with_reducible first | refine Kd ?_ | refine Kn ?_ | refine Kb (by assumption) ?_) | ((with_reducible first | refine Kw ?_ ?_ | refine Fw ?_) <;> first | with_reducible rfl | (simp; done)) | (with_reducible first | refine Ka _ ?_ | refine Ks _ (by first | exact Nat.le_refl _ | omega | (simp; done) | (simp; omega) | (simp at *; omega)) ?_ | refine Fd ?_ | refine Fn ?_ | refine Fb (by assumption) (by first | exact Nat.le_refl _ | omega | (simp; done) | (simp; omega) | (simp at *; omega)) ?_ | refine Fa _ (by first | exact Nat.le_refl _ | omega | (simp; done) | (simp; omega) | (simp at *; omega)) ?_ | refine Fs _ ?_))); clear hcd hfd) | (go_at_call 70; refine (copyO_wg vA r.m vc r.V _ ((HR.out.v.below (show Below W.heap.size w1 _ from (show Below w1.heap.size w1 _ from (by repeat (first | (with_reducible first | exact Below.refl _ _ | refine Below.drew ?_ | refine below_drewN ?_ _) | ((with_reducible first | refine Lc ?_ ?_ _ | refine Ls ?_ ?_ _ | refine Lv (by assumption) ?_ ?_); · first | exact Nat.le_refl _ | omega | (simp; done) | (simp; omega) | (simp at *; omega))))).mono hsW)).mono (by first | exact Nat.le_refl _ | omega | (simp; done) | (simp; omega))) hm).mono ?_; rintro e wg ⟨hbg, vA', vc', rfl, hov, hvc', hovr⟩; obtain ⟨hcg, hfg⟩ := bcell hbg; have hzg := hbg.size; (try simp only [World.size_drew, World.heap_drewN, World.size_alloc] at hzg); have r0 : wg.cell? ⟨W.heap.size + 1, 0, none⟩ = some (.slice none 0 0) := (by repeat (first | with_reducible assumption | (simp; done) | (with_reducible first | refine Kd ?_ | refine Kn ?_ | refine Kb (by assumption) ?_) | ((with_reducible first | refine Kw ?_ ?_ | refine Fw ?_) <;> first | with_reducible rfl | (simp; done)) | (with_reducible first | refine Ka _ ?_ | refine Ks _ (by first | exact Nat.le_refl _ | omega | (simp; done) | (simp; omega) | (simp at *; omega)) ?_ | refine Fd ?_ | refine Fn ?_ | refine Fb (by assumption) (by first | exact Nat.le_refl _ | omega | (simp; done) | (simp; omega) | (simp at *; omega)) ?_ | refine Fa _ (by first | exact Nat.le_refl _ | omega | (simp; done) | (simp; omega) | (simp at *; omega)) ?_ | refine Fs _ ?_))); have r1 : wg.cell? ⟨W.heap.size + 1, 1, none⟩ = some (.slice none 0 0) := (by repeat (first | with_reducible assumption | (simp; done) | (with_reducible first | refine Kd ?_ | refine Kn ?_ | refine Kb (by assumption) ?_) | ((with_reducible first | refine Kw ?_ ?_ | refine Fw ?_) <;> first | with_reducible rfl | (simp; done)) | (with_reducible first | refine Ka _ ?_ | refine Ks _ (by first | exact Nat.le_refl _ | omega | (simp; done) | (simp; omega) | (simp at *; omega)) ?_ | refine Fd ?_ | refine Fn ?_ | refine Fb (by assumption) (by first | exact Nat.le_refl _ | omega | (simp; done) | (simp; omega) | (simp at *; omega)) ?_ | refine Fa _ (by first | exact Nat.le_refl _ | omega | (simp; done) | (simp; omega) | (simp at *; omega)) ?_ | refine Fs _ ?_))); have r2 : wg.cell? ⟨W.heap.size + 1, 2, none⟩ = some (.slice none 0 0) := (by repeat (first | with_reducible assumption | (simp; done) | (with_reducible first | refine Kd ?_ | refine Kn ?_ | refine Kb (by assumption) ?_) | ((with_reducible first | refine Kw ?_ ?_ | refine Fw ?_) <;> first | with_reducible rfl | (simp; done)) | (with_reducible first | refine Ka _ ?_ | refine Ks _ (by first | exact Nat.le_refl _ | omega | (simp; done) | (simp; omega) | (simp at *; omega)) ?_ | refine Fd ?_ | refine Fn ?_ | refine Fb (by assumption) (by first | exact Nat.le_refl _ | omega | (simp; done) | (simp; omega) | (simp at *; omega)) ?_ | refine Fa _ (by first | exact Nat.le_refl _ | omega | (simp; done) | (simp; omega) | (simp at *; omega)) ?_ | refine Fs _ ?_))); have f0 : wg.frozen? ⟨W.heap.size + 1, 0, none⟩ = false := (by repeat (first | with_reducible assumption | (simp; done) | (with_reducible first | refine Kd ?_ | refine Kn ?_ | refine Kb (by assumption) ?_) | ((with_reducible first | refine Kw ?_ ?_ | refine Fw ?_) <;> first | with_reducible rfl | (simp; done)) | (with_reducible first | refine Ka _ ?_ | refine Ks _ (by first | exact Nat.le_refl _ | omega | (simp; done) | (simp; omega) | (simp at *; omega)) ?_ | refine Fd ?_ | refine Fn ?_ | refine Fb (by assumption) (by first | exact Nat.le_refl _ | omega | (simp; done) | (simp; omega) | (simp at *; omega)) ?_ | refine Fa _ (by first | exact Nat.le_refl _ | omega | (simp; done) | (simp; omega) | (simp at *; omega)) ?_ | refine Fs _ ?_))); have f1 : wg.frozen? ⟨W.heap.size + 1, 1, none⟩ = false := (by repeat (first | with_reducible assumption | (simp; done) | (with_reducible first | refine Kd ?_ | refine Kn ?_ | refine Kb (by assumption) ?_) | ((with_reducible first | refine Kw ?_ ?_ | refine Fw ?_) <;> first | with_reducible rfl | (simp; done)) | (with_reducible first | refine Ka _ ?_ | refine Ks _ (by first | exact Nat.le_refl _ | omega | (simp; done) | (simp; omega) | (simp at *; omega)) ?_ | refine Fd ?_ | refine Fn ?_ | refine Fb (by assumption) (by first | exact Nat.le_refl _ | omega | (simp; done) | (simp; omega) | (simp at *; omega)) ?_ | refine Fa _ (by first | exact Nat.le_refl _ | omega | (simp; done) | (simp; omega) | (simp at *; omega)) ?_ | refine Fs _ ?_))); have f2 : wg.frozen? ⟨W.heap.size + 1, 2, none⟩ = false := (by repeat (first | with_reducible assumption | (simp; done) | (with_reducible first | refine Kd ?_ | refine Kn ?_ | refine Kb (by assumption) ?_) | ((with_reducible first | refine Kw ?_ ?_ | refine Fw ?_) <;> first | with_reducible rfl | (simp; done)) | (with_reducible first | refine Ka _ ?_ | refine Ks _ (by first | exact Nat.le_refl _ | omega | (simp; done) | (simp; omega) | (simp at *; omega)) ?_ | refine Fd ?_ | refine Fn ?_ | refine Fb (by assumption) (by first | exact Nat.le_refl _ | omega | (simp; done) | (simp; omega) | (simp at *; omega)) ?_ | refine Fa _ (by first | exact Nat.le_refl _ | omega | (simp; done) | (simp; omega) | (simp at *; omega)) ?_ | refine Fs _ ?_))); clear hcg hfg))
  have hz1 : w1.heap.size ≤ w1.drew.heap.size := by simp
  have HB := Lib.hid (hb1f HB1.out hbg hbd hba hsW)
  have HLB := Lib.hid (hob.below_of h1n)
  have HOR := Lib.hid (owns_later hodr hbg)
  have HLD := Lib.hid (hod.below_of h1d)
  have hzz : wa.heap.size ≤ wd.heap.size ∧ wd.heap.size ≤ wg.heap.size := ⟨hzd, hzg⟩
  have HOB := Lib.hid (owns_later (owns_later hobr hbd) hbg)
  have HOBn := Lib.hid ((hob.later hbd).later hbg)
  have HOD := Lib.hid (hod.later hbg)
  have HOV := Lib.hid hovr
  have hxs : W.heap.size + 2 ≤ w1.drew.heap.size ∧ w1.drew.heap.size ≤ wa.heap.size := by
    rw [World.size_drew]
    exact ⟨hs1, hza⟩
  clear hba hob hobr hbd hod hodr hbg hov hovr c0 c1 c2
  go_wp2_with fail
  refine name_post ?_
  intro w' hw
  have hk : ∀ i, i ≠ W.heap.size + 1 → w'.heap[i]? = wg.heap[i]? := fun i hi => by
    rw [hw]
    exact (set_heap _ (by exact hi)).trans ((set_heap _ (by exact hi)).trans (set_heap _ (by exact hi)))
  have hbf : Below W.heap.size W w' := by
    rw [hw]
    exact ((HB.out.setCell (by dsimp only; omega) _).setCell (by dsimp only; omega) _).setCell (by dsimp only; omega) _
  have hres : w'.cell? ⟨W.heap.size + 1, 0, none⟩ = some (.slice bA' r.n bc') ∧ w'.cell? ⟨W.heap.size + 1, 1, none⟩ = some (.slice dA' r.d dc') ∧ w'.cell? ⟨W.heap.size + 1, 2, none⟩ = some (.slice vA' r.m vc') := by
    rw [hw]
    exact ⟨by simp [go_sem, r0], by simp [go_sem, r0, r1], by simp [go_sem, r0, r1, r2]⟩
  clear hw
  obtain ⟨s0, s1, s2⟩ := hres
  exact bodyPost_ret (v := rwV bA' r.n bc' dA' r.d dc' vA' r.m vc') (by simp [results, Tryz.results13, go_sem, s0, s1, s2]) rfl ⟨bA', dA', vA', bc', dc', vc', wd.heap.size, rfl, by omega, fun a ha => Nat.lt_of_lt_of_le (HLB.out a ha) (by omega), fun a ha => HLD.out a ha, (HOBn.out.keep (fun b h1 h2 => hk b (by omega))).low (by omega), (HOD.out.keep (fun b h1 h2 => hk b (by omega))).low (by omega), owns_sm HOV.out (fun g h1 h2 => hk g (by omega)), ⟨hbc', hdc', hvc'⟩, hbf, wa.heap.size, by omega, by omega, fun a ha => HLB.out a ha, owns_sm HOR.out (fun g h1 h2 => hk g (by omega))⟩

end Go.Proofs.YtnnikeolgknfoaaGreat

set_option linter.unusedSimpArgs false
set_option linter.unusedVariables false
namespace Go.Proofs.YtnnikeolgknfoaaGreat
open Go.RowKit Go.Shelf

/-- a copy of a row, and the blocks in which it lies -/
structure Cp where
  bA : Option Addr
  dA : Option Addr
  vA : Option Addr
  bc : Nat
  dc : Nat
  vc : Nat
  s : Nat
  m : Nat
  e : Nat
abbrev Cp.val (c : Cp) (r : Rw) : Value := rwV c.bA r.n c.bc c.dA r.d c.dc c.vA r.m c.vc
structure CpAt (w : World) (r : Rw) (c : Cp) : Prop where
  b : OwnBn w c.s c.bA r.n r.B
  d : OwnInt w c.s c.dA r.d r.D
  v : w.ownsRow c.m 101 4 (.slice c.vA r.m c.vc) r.m (rowC wgC r.V r.m)
  bl : ∀ a, c.bA = some a → c.s ≤ a.block ∧ a.block < c.m ∧ a.block < c.e
  dl : ∀ a, c.dA = some a → c.s ≤ a.block ∧ a.block < c.m ∧ a.block < c.e
  vl : ∀ g, (Value.slice c.vA r.m c.vc).ownBlock = some g → c.m ≤ g ∧ g < c.e
  bd : ∀ a g, c.bA = some a → c.dA = some g → a.block ≠ g.block
  cap : r.n ≤ c.bc ∧ r.d ≤ c.dc ∧ r.m ≤ c.vc
  sm : c.s ≤ c.m
  me : c.m ≤ c.e
  e : c.e ≤ w.heap.size
theorem OwnBn.keepA {w w' : World} {lo n : Nat} {A : Option Addr} {P : Nat → Bn} (h : OwnBn w lo A n P) (hk : ∀ a, A = some a → w'.heap[a.block]? = w.heap[a.block]?) : OwnBn w' lo A n P := fun k hk' => by
  obtain ⟨b, hA, hl, c0, c1, c2, c3, c4, c5, c6, hf⟩ := h k hk'
  have hs := hk _ hA
  dsimp only at hs
  exact ⟨b, hA, hl, cell_same hs c0, cell_same hs c1, cell_same hs c2, cell_same hs c3, cell_same hs c4, cell_same hs c5, cell_same hs c6, fun i => fro_same hs (hf i)⟩
theorem OwnInt.keepA {w w' : World} {lo n : Nat} {A : Option Addr} {P : Nat → Int} (h : OwnInt w lo A n P) (hk : ∀ a, A = some a → w'.heap[a.block]? = w.heap[a.block]?) : OwnInt w' lo A n P := fun k hk' => by
  obtain ⟨b, hA, hl, c0, hf⟩ := h k hk'
  have hs := hk _ hA
  dsimp only at hs
  exact ⟨b, hA, hl, cell_same hs c0, fun i => fro_same hs (hf i)⟩
theorem CpAt.keep {w w' : World} {r : Rw} {c : Cp} (h : CpAt w r c) (hk : ∀ i, c.s ≤ i → i < c.e → w'.heap[i]? = w.heap[i]?) (hs : w.heap.size ≤ w'.heap.size) : CpAt w' r c :=
  ⟨h.b.keepA (fun a ha => by have := h.bl a ha; exact hk _ this.1 this.2.2), h.d.keepA (fun a ha => by have := h.dl a ha; exact hk _ this.1 this.2.2), owns_sm h.v (fun g h1 h2 => by have := h.vl g h2; have := h.sm; exact hk g (by omega) (by omega)), h.bl, h.dl, h.vl, h.bd, h.cap, h.sm, h.me, Nat.le_trans h.e hs⟩
theorem CpAt.of {w w' : World} {r : Rw} (hn : 1 ≤ r.n) (hd : 1 ≤ r.d) {e : Ending} (h : OwnPost2 r w e w') : ∃ c : Cp, e = .returned (c.val r) ∧ CpAt w' r c ∧ c.s = w.heap.size ∧ c.e = w'.heap.size ∧ Below w.heap.size w w' := by
  obtain ⟨bA, dA, vA, bc, dc, vc, m, rfl, hm, hb, hd', ob, od, ov, hc, hbel, m0, hm1, hm2, hb0, hd0⟩ := h
  have hsz := hbel.size
  refine ⟨⟨bA, dA, vA, bc, dc, vc, w.heap.size, min m w'.heap.size, w'.heap.size⟩, rfl, ⟨ob, od, owns_low (Nat.min_le_left _ _) ov, fun a ha => ?_, fun a ha => ?_, fun g hg => ?_, fun a g ha hg => ?_, hc, by show w.heap.size ≤ min m w'.heap.size; omega, Nat.min_le_right _ _, Nat.le_refl _⟩, rfl, rfl, hbel⟩
  · obtain ⟨b, hA, hl, c0, _⟩ := ob 0 (by omega)
    have h1 := ob.below_of hn a ha
    have h2 := hb a ha
    dsimp only at ha ⊢
    rw [ha] at hA
    injection hA with hA
    rw [hA] at h1 h2 ⊢
    exact ⟨hl, Nat.lt_min.2 ⟨h2, h1⟩, h1⟩
  · obtain ⟨b, hA, hl, c0, _⟩ := od 0 (by omega)
    have h1 := od.below_of hd a ha
    have h2 := hd' a ha
    dsimp only at ha ⊢
    rw [ha] at hA
    injection hA with hA
    rw [hA] at h1 h2 ⊢
    exact ⟨hl, Nat.lt_min.2 ⟨h2, h1⟩, h1⟩
  · have := ov.lt g hg
    exact ⟨Nat.le_trans (Nat.min_le_left _ _) this.1, this.2⟩
  · have h1 := hb0 a ha
    rcases hd0.2 with ⟨e0, _⟩ | ⟨q, cap, cur, e0, hq, _⟩
    · injection e0 with e1 e2 e3
      dsimp only at hg
      rw [hg] at e1
      exact absurd e1 (by simp)
    · injection e0 with e1 e2 e3
      dsimp only at hg
      rw [hg] at e1
      injection e1 with e1
      rw [e1]
      dsimp only
      omega

/-- a copy in its box -/
structure CpBox (w : World) (r : Rw) (c : Cp) (z : Nat) : Prop where
  cp : CpAt w r c
  bx : V3 w z (.slice c.bA r.n c.bc) (.slice c.dA r.d c.dc) (.slice c.vA r.m c.vc)
def own (c : Cp) (z i : Nat) : Prop := i = z ∨ (c.s ≤ i ∧ i < c.e)
theorem CpBox.keep {w w' : World} {r : Rw} {c : Cp} {z : Nat} (h : CpBox w r c z) (hk : ∀ i, own c z i → w'.heap[i]? = w.heap[i]?) (hs : w.heap.size ≤ w'.heap.size) : CpBox w' r c z :=
  ⟨h.cp.keep (fun i h1 h2 => hk i (.inr ⟨h1, h2⟩)) hs, h.bx.same (hk z (.inl rfl))⟩
/-- a row in a box, and where its blocks are -/
def RowF (w : World) (z : Nat) (r : Rw) (S : Nat → Prop) : Prop :=
  ∃ (bA dA vA : Option Addr) (bc dc vc : Nat), RwAt w z r bA bc dA dc vA vc ∧ RwRow w w.heap.size r bA bc dA dc vA vc ∧ S z ∧ ∀ a, (bA = some a ∨ dA = some a ∨ vA = some a) → S a.block
theorem RwRow.keepS {w w' : World} {r : Rw} {bA dA vA : Option Addr} {bc dc vc B : Nat} (h : RwRow w B r bA bc dA dc vA vc) (hk : ∀ a, (bA = some a ∨ dA = some a ∨ vA = some a) → w'.heap[a.block]? = w.heap[a.block]?) {B' : Nat} (hB : B ≤ B') (hs : B' ≤ w'.heap.size) : RwRow w' B' r bA bc dA dc vA vc := by
  refine ⟨hs, fun k hk' => ?_, fun k hk' => ?_, fun k hk' => ?_, h.n1, h.d1, h.m1, h.bc, h.dc, h.vc⟩
  · obtain ⟨b, o, hA, hb, c0, c1, c2, c3, c4, c5, c6⟩ := h.b k hk'
    have hh := hk ⟨b, o, none⟩ (.inl hA)
    exact ⟨b, o, hA, by omega, cell_same hh c0, cell_same hh c1, cell_same hh c2, cell_same hh c3, cell_same hh c4, cell_same hh c5, cell_same hh c6⟩
  · obtain ⟨b, o, hA, hb, c0⟩ := h.d k hk'
    exact ⟨b, o, hA, by omega, cell_same (hk ⟨b, o, none⟩ (.inr (.inl hA))) c0⟩
  · obtain ⟨b, o, hA, hb, c0, c1, c2, c3⟩ := h.v k hk'
    have hh := hk ⟨b, o, none⟩ (.inr (.inr hA))
    exact ⟨b, o, hA, by omega, cell_same hh c0, cell_same hh c1, cell_same hh c2, cell_same hh c3⟩
theorem RowF.keep {w w' : World} {z : Nat} {r : Rw} {S : Nat → Prop} (h : RowF w z r S) (hk : ∀ i, S i → i < w.heap.size → w'.heap[i]? = w.heap[i]?) (hs : w.heap.size ≤ w'.heap.size) : RowF w' z r S := by
  obtain ⟨bA, dA, vA, bc, dc, vc, h1, h2, h3, h4⟩ := h
  refine ⟨bA, dA, vA, bc, dc, vc, h1.same (hk z h3 h1.lt), ?_, h3, h4⟩
  refine ⟨Nat.le_refl _, fun k hk' => ?_, fun k hk' => ?_, fun k hk' => ?_, h2.n1, h2.d1, h2.m1, h2.bc, h2.dc, h2.vc⟩
  · obtain ⟨b, o, hA, hb, c0, c1, c2, c3, c4, c5, c6⟩ := h2.b k hk'
    have hh := hk b (h4 _ (.inl hA)) hb
    exact ⟨b, o, hA, by omega, cell_same hh c0, cell_same hh c1, cell_same hh c2, cell_same hh c3, cell_same hh c4, cell_same hh c5, cell_same hh c6⟩
  · obtain ⟨b, o, hA, hb, c0⟩ := h2.d k hk'
    exact ⟨b, o, hA, by omega, cell_same (hk b (h4 _ (.inr (.inl hA))) hb) c0⟩
  · obtain ⟨b, o, hA, hb, c0, c1, c2, c3⟩ := h2.v k hk'
    have hh := hk b (h4 _ (.inr (.inr hA))) hb
    exact ⟨b, o, hA, by omega, cell_same hh c0, cell_same hh c1, cell_same hh c2, cell_same hh c3⟩
theorem RowF.weak {w : World} {z : Nat} {r : Rw} {S S' : Nat → Prop} (h : RowF w z r S) (hs : ∀ i, S i → S' i) : RowF w z r S' := by
  obtain ⟨bA, dA, vA, bc, dc, vc, h1, h2, h3, h4⟩ := h
  exact ⟨bA, dA, vA, bc, dc, vc, h1, h2, hs _ h3, fun a ha => hs _ (h4 a ha)⟩
/-- a box whose bins and days lie in a copy, with weighings of one's own -/
theorem rowF_of {w : World} {r f : Rw} (hf : f.ok) {c : Cp} {z : Nat} {v : Value} {base : Nat} {S : Nat → Prop} (hn : f.n = r.n) (hd : f.d = r.d) (hB : f.B = r.B) (hD : f.D = r.D) (hc : OwnBn w c.s c.bA r.n r.B ∧ OwnInt w c.s c.dA r.d r.D) (hcap : r.n ≤ c.bc ∧ r.d ≤ c.dc) (hS : ∀ i, own c z i → S i)
    (hbl : ∀ a, c.bA = some a → c.s ≤ a.block ∧ a.block < c.m ∧ a.block < c.e) (hdl : ∀ a, c.dA = some a → c.s ≤ a.block ∧ a.block < c.m ∧ a.block < c.e)
    (hbox : V3 w z (.slice c.bA r.n c.bc) (.slice c.dA r.d c.dc) v) (hv : w.ownsRow base 101 4 v f.m (rowC wgC f.V f.m)) (hSv : ∀ g, v.ownBlock = some g → S g) (hce : c.e ≤ w.heap.size) : RowF w z f (fun i => S i ∧ i < w.heap.size) := by
  have hvlt := hv.lt
  obtain ⟨vA, vc, rfl, ho, hvc⟩ := OwnWg.of hv
  refine ⟨c.bA, c.dA, vA, c.bc, c.dc, vc, ⟨by rw [hn]; exact hbox.c0, by rw [hd]; exact hbox.c1, hbox.c2⟩, ⟨Nat.le_refl _, by rw [hn, hB]; exact hc.1.row, by rw [hd, hD]; exact hc.2.row, ho.row, by have := hf.n6; omega, by have := hf.d7; omega, by have := hf.m10; omega, by omega, by omega, hvc⟩, ⟨hS z (.inl rfl), hbox.lt⟩, ?_⟩
  rintro a (h | h | h)
  · have := hbl a h
    exact ⟨hS _ (.inr ⟨this.1, this.2.2⟩), by omega⟩
  · have := hdl a h
    exact ⟨hS _ (.inr ⟨this.1, this.2.2⟩), by omega⟩
  · suffices hob : (Value.slice vA f.m vc).ownBlock = some a.block from ⟨hSv _ hob, (hvlt _ hob).2⟩
    rw [h]
    rcases hv.2 with ⟨e, _⟩ | ⟨g, cap, cur, e, _⟩
    · injection e with e1 e2 e3
      rw [h] at e1
      exact absurd e1 (by simp)
    · injection e with e1 e2 e3
      rw [h] at e1
      injection e1 with e1
      rw [e1]
      rfl
theorem CpBox.row {w : World} {r : Rw} (hr : r.ok) {c : Cp} {z : Nat} (h : CpBox w r c z) {S : Nat → Prop} (hS : ∀ i, own c z i → S i) : RowF w z r (fun i => S i ∧ i < w.heap.size) :=
  rowF_of (r := r) (f := r) hr rfl rfl rfl rfl ⟨h.cp.b, h.cp.d⟩ ⟨h.cp.cap.1, h.cp.cap.2.1⟩ hS h.cp.bl h.cp.dl h.bx h.cp.v (fun g hg => by have := h.cp.vl g hg; have := h.cp.sm; exact hS g (.inr ⟨by omega, by omega⟩)) h.cp.e
/-- a weighing appended to a copy -/
theorem CpBox.app {w w6 : World} {r : Rw} (hr : r.ok) (hm : r.m < 10) {c : Cp} {z g cap : Nat} {x : Wg} (hx : x.ok r.n) {o : Obj} (h : CpBox w r c z) (hz : z < c.s ∨ c.e ≤ z) {E0 : Nat} (hE : c.e ≤ E0) (hEw : E0 ≤ w.heap.size)
    (hown : w6.ownsRow c.m 101 4 (.slice (some ⟨g, 0, none⟩) (r.m + 1) cap) (r.m + 1) (rowC wgC r.V r.m ++ wgC x)) (hgr : (w.alloc o).grownBy w6 (Value.slice c.vA r.m c.vc).ownBlock) (hat : (Value.slice c.vA r.m c.vc).ownBlock = some g ∨ g = w.heap.size + 1) :
    RowF (w6.setCell ⟨z, 2, none⟩ (.slice (some ⟨g, 0, none⟩) (r.m + 1) cap)) z (r.more x) (fun i => (own c z i ∨ E0 ≤ i) ∧ i < (w6.setCell ⟨z, 2, none⟩ (.slice (some ⟨g, 0, none⟩) (r.m + 1) cap)).heap.size) ∧ (∀ i, i < w.heap.size → ¬ own c z i → (w6.setCell ⟨z, 2, none⟩ (.slice (some ⟨g, 0, none⟩) (r.m + 1) cap)).heap[i]? = w.heap[i]?) ∧ w.heap.size ≤ (w6.setCell ⟨z, 2, none⟩ (.slice (some ⟨g, 0, none⟩) (r.m + 1) cap)).heap.size ∧ ∀ s0, s0 ≤ c.s → s0 ≤ z → s0 ≤ w.heap.size → Below s0 w (w6.setCell ⟨z, 2, none⟩ (.slice (some ⟨g, 0, none⟩) (r.m + 1) cap)) := by
  have hzl := h.bx.lt
  have hs6 := hgr.size
  simp at hs6
  have hvl := fun q (hq : (Value.slice c.vA r.m c.vc).ownBlock = some q) => h.cp.vl q hq
  have hsm := h.cp.sm
  have hk : ∀ i, i < w.heap.size → (Value.slice c.vA r.m c.vc).ownBlock ≠ some i → w6.heap[i]? = w.heap[i]? := fun i hi hne => (hgr.block i (by simp; omega) (fun e => hne e.symm)).trans (Below.heap_alloc _ _ _ hi)
  have hzne : (Value.slice c.vA r.m c.vc).ownBlock ≠ some z := fun e => by have := hvl z e; omega
  have hgz : g ≠ z := fun e => by
    rcases hat with h1 | h1
    · rw [e] at h1; exact hzne h1
    · omega
  have hz6 := hk z hzl hzne
  have hce := h.cp.e
  have hb' : ∀ a, (c.bA = some a ∨ c.dA = some a) → (w6.setCell ⟨z, 2, none⟩ (.slice (some ⟨g, 0, none⟩) (r.m + 1) cap)).heap[a.block]? = w.heap[a.block]? := fun a ha => by
    have hbl : c.s ≤ a.block ∧ a.block < c.m ∧ a.block < c.e := by
      rcases ha with ha | ha
      · exact h.cp.bl a ha
      · exact h.cp.dl a ha
    refine (set_heap _ (by dsimp only; omega)).trans (hk _ (by omega) (fun e => ?_))
    have := hvl _ e
    omega
  refine ⟨?_, fun i hi hno => (set_heap _ (by dsimp only; exact fun e => hno (.inl e))).trans (hk i hi (fun e => by
      have := hvl i e
      exact hno (.inr ⟨by omega, by omega⟩))), by simp [World.setCell]; omega, fun s0 h1 h2 h3 => (Below.grown ((Below.refl _ w).alloc (by omega) _) hgr (by simp; omega) (fun q hq => by have := hvl q hq; omega)).setCell (by dsimp only; omega) _⟩
  refine rowF_of (S := fun i => own c z i ∨ E0 ≤ i) (r := r) (c := c) (v := .slice (some ⟨g, 0, none⟩) (r.m + 1) cap) (base := c.m) (Rw.more_ok hr hm hx) rfl rfl rfl rfl ⟨h.cp.b.keepA (fun a ha => hb' a (.inl ha)), h.cp.d.keepA (fun a ha => hb' a (.inr ha))⟩ ⟨h.cp.cap.1, h.cp.cap.2.1⟩ (fun i hi => .inl hi) h.cp.bl h.cp.dl ((h.bx.same hz6).set2 _) ?_ (fun q hq => ?_) (by simp [World.setCell]; omega)
  · have e : rowC wgC (r.more x).V (r.more x).m = rowC wgC r.V r.m ++ wgC x := by rw [rowC_put]; rfl
    show World.ownsRow _ _ _ _ _ (r.m + 1) _
    rw [e]
    exact owns_sm hown (fun q h1 h2 => set_heap _ (by
      dsimp only
      intro e
      exact hgz ((Option.some.inj h2).trans e)))
  · have : q = g := (Option.some.inj hq).symm
    rw [this]
    rcases hat with h1 | h1
    · have := hvl g h1
      exact .inl (.inr ⟨by omega, by omega⟩)
    · exact .inr (by omega)
theorem CpBox.pull {w w' : World} {r : Rw} {c : Cp} {z s0 qb : Nat} (h : CpBox w r c z) (hg : w.grownBy w' (some qb)) (hs : s0 ≤ c.s ∧ s0 ≤ z) (hq : qb < s0) : CpBox w' r c z := by
  have hz := h.bx.lt
  have he := h.cp.e
  exact h.keep (fun i hi => hg.block i (by rcases hi with h1 | h1 <;> omega) (fun e => by injection e with e; rcases hi with h1 | h1 <;> omega)) hg.size
theorem CpBox.later {w w' : World} {r : Rw} {c : Cp} {z : Nat} (h : CpBox w r c z) (hb : Below w.heap.size w w') : CpBox w' r c z := by
  have hz := h.bx.lt
  have he := h.cp.e
  exact h.keep (fun i hi => hb.block i (by rcases hi with h1 | h1 <;> omega)) hb.size
end Go.Proofs.YtnnikeolgknfoaaGreat

set_option linter.unusedSimpArgs false
set_option linter.unusedVariables false
namespace Go.Proofs.YtnnikeolgknfoaaGreat
open Go.RowKit Go.Shelf

/-- other weighings -/
def Rw.spo (r : Rw) (V : Nat → Wg) : Rw := { r with V := V }
def putP (V : Nat → Wg) (j : Nat) (p : Int) : Nat → Wg := fun i => if i = j then ⟨(V j).f, (V j).t, p, (V j).e⟩ else V i
theorem OwnWg.putp {w : World} {lo n : Nat} {A : Option Addr} {V : Nat → Wg} (h : OwnWg w lo A n V) {g j : Nat} (hA : A = some ⟨g, 0, none⟩) (hj : j < n) (p : Int) : OwnWg (w.setCell ⟨g, j * 4 + 2, none⟩ (.int .i64 p)) lo A n (putP V j p) := fun k hk => by
  obtain ⟨b, hA', hl, c0, c1, c2, c3, hf⟩ := h k hk
  rw [hA] at hA'
  injection hA' with hA'
  injection hA' with hA' _
  subst hA'
  have hfz : ∀ i, (w.setCell ⟨g, j * 4 + 2, none⟩ (.int .i64 p)).frozen? ⟨g, i, none⟩ = false := fun i => Fs _ (hf i)
  unfold putP
  have off : ∀ {i : Nat} {v : Value}, i ≠ j * 4 + 2 → w.cell? ⟨g, i, none⟩ = some v → (w.setCell ⟨g, j * 4 + 2, none⟩ (.int .i64 p)).cell? ⟨g, i, none⟩ = some v := fun hne hc => by
    rw [World.cell?_setCell_other _ _ _ _ (by intro e; injection e with _ e _; omega)]
    exact hc
  by_cases e : k = j
  · rw [if_pos e]
    subst e
    exact ⟨g, hA, hl, off (by omega) c0, off (by omega) c1, by simp [go_sem, c2], off (by omega) c3, hfz⟩
  · rw [if_neg e]
    exact ⟨g, hA, hl, off (by omega) c0, off (by omega) c1, off (by omega) c2, off (by omega) c3, hfz⟩
theorem Rw.spo_ok {r : Rw} (hr : r.ok) {V : Nat → Wg} (h : (r.spo V).ok) {j : Nat} (hj : j < r.m) {p : Int} (hp : 0 ≤ p ∧ p ≤ 3000) : (r.spo (putP V j p)).ok :=
  ⟨hr.n1, hr.n6, hr.d7, hr.m10, hr.b, fun k hk => by
    show (if k = j then (⟨(V j).f, (V j).t, p, (V j).e⟩ : Wg) else V k).ok r.n
    have hv := h.v j hj
    by_cases e : k = j
    · rw [if_pos e]
      exact ⟨hp, hv.e, hv.f, hv.ft, hv.t⟩
    · rw [if_neg e]
      exact h.v k hk, hr.k⟩
/-- the row under way -/
structure SpAt (W w : World) (B cb : Nat) (lA : Option Addr) (ln lc : Nat) (r : Rw) (bA : Option Addr) (bc : Nat) (dA : Option Addr) (dc : Nat) (vA : Option Addr) (vc : Nat) (V : Nat → Wg) : Prop where
  o : V3 w W.heap.size (.slice bA r.n bc) (.slice dA r.d dc) (.slice vA r.m vc)
  q : V3 w (W.heap.size + 1) (.slice none 0 0) (.slice none 0 0) (.slice none 0 0)
  b : OwnBn w (W.heap.size + 2) bA r.n r.B
  d : OwnInt w (W.heap.size + 2) dA r.d r.D
  v : OwnWg w (W.heap.size + 2) vA r.m V
  nb : ∀ a g, bA = some a → vA = some g → a.block ≠ g.block
  nd : ∀ a g, dA = some a → vA = some g → a.block ≠ g.block
  l : ∀ a, bA = some a ∨ dA = some a ∨ vA = some a → W.heap.size + 2 ≤ a.block
  cp : r.n ≤ bc ∧ r.d ≤ dc ∧ r.m ≤ vc
  ok : (r.spo V).ok
  c : Chute w B cb lA ln lc
  g : W.grownBy w (some cb)
  z : W.heap.size + 2 ≤ w.heap.size
  s : cb < W.heap.size ∧ B ≤ W.heap.size
theorem SpAt.pull {W w w' : World} {B cb : Nat} {lA : Option Addr} {ln lc : Nat} {r : Rw} {bA : Option Addr} {bc : Nat} {dA : Option Addr} {dc : Nat} {vA : Option Addr} {vc : Nat} {V : Nat → Wg} (h : SpAt W w B cb lA ln lc r bA bc dA dc vA vc V) (hg : w.grownBy w' (some cb)) (hc : Chute w' B cb lA ln lc) : SpAt W w' B cb lA ln lc r bA bc dA dc vA vc V := by
  have hs := h.s
  have hz := h.z
  have hsz := hg.size
  have hk : ∀ i, W.heap.size ≤ i → i < w.heap.size → w'.heap[i]? = w.heap[i]? := fun i h1 h2 => hg.block i h2 (fun e => by injection e with e; omega)
  exact ⟨h.o.same (hk _ (by omega) (by omega)), h.q.same (hk _ (by omega) (by omega)), h.b.keep (fun i h1 h2 => hk i (by omega) h2), h.d.keep (fun i h1 h2 => hk i (by omega) h2), h.v.keep (fun i h1 h2 => hk i (by omega) h2), h.nb, h.nd, h.l, h.cp, h.ok, hc, gb_trans h.g hg, by omega, hs⟩
theorem SpAt.later {W w w' : World} {B cb : Nat} {lA : Option Addr} {ln lc : Nat} {r : Rw} {bA : Option Addr} {bc : Nat} {dA : Option Addr} {dc : Nat} {vA : Option Addr} {vc : Nat} {V : Nat → Wg} (h : SpAt W w B cb lA ln lc r bA bc dA dc vA vc V) (hb : Below w.heap.size w w') : SpAt W w' B cb lA ln lc r bA bc dA dc vA vc V :=
  h.pull (gb_of_below cb hb) (h.c.later hb)
theorem SpAt.put {W w : World} {B cb : Nat} {lA : Option Addr} {ln lc : Nat} {r : Rw} {bA : Option Addr} {bc : Nat} {dA : Option Addr} {dc : Nat} {vA : Option Addr} {vc : Nat} {V : Nat → Wg} (hr : r.ok) (h : SpAt W w B cb lA ln lc r bA bc dA dc vA vc V) {g j : Nat} (hA : vA = some ⟨g, 0, none⟩) (hj : j < r.m) {p : Int} (hp : 0 ≤ p ∧ p ≤ 3000) : SpAt W (w.setCell ⟨g, j * 4 + 2, none⟩ (.int .i64 p)) B cb lA ln lc r bA bc dA dc vA vc (putP V j p) := by
  have hl := h.l _ (.inr (.inr hA))
  dsimp only at hl
  have hs := h.s
  have hz := h.z
  have hk : ∀ i, i ≠ g → (w.setCell ⟨g, j * 4 + 2, none⟩ (.int .i64 p)).heap[i]? = w.heap[i]? := fun i hi => set_heap _ (by exact hi)
  exact ⟨h.o.same (hk _ (by omega)), h.q.same (hk _ (by omega)), h.b.keepA (fun a ha => hk _ (h.nb a _ ha hA)), h.d.keepA (fun a ha => hk _ (h.nd a _ ha hA)), h.v.putp hA hj p, h.nb, h.nd, h.l, h.cp, Rw.spo_ok hr h.ok hj hp, h.c.keep (fun i hi => hk i (by omega)), gb_cell h.g (by dsimp only; omega) _, by simp [World.setCell]; exact hz, hs⟩
def SpoilPost (r : Rw) (B cb : Nat) (lA : Option Addr) (ln lc : Nat) (W : World) (e : Ending) (W' : World) : Prop :=
  ∃ (r' : Rw) (bA dA vA : Option Addr) (bc dc vc : Nat), e = .returned (rwV bA r'.n bc dA r'.d dc vA r'.m vc) ∧ r'.n = r.n ∧ r'.d = r.d ∧ r'.m = r.m ∧ r'.ok ∧ RwRow W' W'.heap.size r' bA bc dA dc vA vc ∧ (∀ a, bA = some a ∨ dA = some a ∨ vA = some a → W.heap.size + 2 ≤ a.block) ∧ W.grownBy W' (some cb) ∧ Chute W' B cb lA ln lc

set_option maxRecDepth 100000 in
set_option maxHeartbeats 8000000 in
theorem spoiled_any (most : Int) (hmo : 0 ≤ most ∧ most ≤ 100) (r : Rw) (hr : r.ok) (hd1 : 1 ≤ r.d) (bA dA vA : Option Addr) (bc dc vc : Nat) (B cb : Nat) (lA : Option Addr) (ln lc : Nat) (hln : ln ≤ 9223372036854775807) (W : World) (hB : B ≤ W.heap.size) (hcb : cb < W.heap.size) (hc : Chute W B cb lA ln lc) (hrow : RwRow W W.heap.size r bA bc dA dc vA vc) :
    Calls Tryz.prog 55 #[.pointer (some ⟨cb, 0, none⟩), rwV bA r.n bc dA r.d dc vA r.m vc, .int .i64 most] W (SpoilPost r B cb lA ln lc W) := by
  have HC := Lib.hid hc
  have H0 := Lib.hid hrow
  have HOK := Lib.hid hr
  have hn1 := hr.n1
  have hm10 := hr.m10
  have em : IntKind.i64.wrap (most + 1) = most + 1 := IntWalk.i64_in _ (by omega)
  clear hc hrow hr
  go_enter Tryz.func55, Tryz.ntmps55
  go_upto_region 1 with fail
  refine wp_world (fun W1 => V3 W1 W.heap.size (.slice bA r.n bc) (.slice dA r.d dc) (.slice vA r.m vc) ∧ V3 W1 (W.heap.size + 1) (.slice none 0 0) (.slice none 0 0) (.slice none 0 0) ∧ Below W.heap.size W W1 ∧ W.heap.size + 2 ≤ W1.heap.size) ⟨⟨(by (repeat' refine And.intro ?_ ?_) <;> (repeat (first | with_reducible assumption | (simp; done) | (with_reducible first | refine Kd ?_ | refine Kn ?_ | refine Kb (by assumption) ?_) | ((with_reducible first | refine Kw ?_ ?_ | refine Fw ?_) <;> first | with_reducible rfl | (simp; done)) | (with_reducible first | refine Ka _ ?_ | refine Ks _ (by first | exact Nat.le_refl _ | omega | (simp; done) | (simp; omega)) ?_ | refine Fd ?_ | refine Fn ?_ | refine Fb (by assumption) (by first | exact Nat.le_refl _ | omega | (simp; done) | (simp; omega)) ?_ | refine Fa _ (by first | exact Nat.le_refl _ | omega | (simp; done) | (simp; omega)) ?_ | refine Fs _ ?_)))), (by (repeat' refine And.intro ?_ ?_) <;> (repeat (first | with_reducible assumption | (simp; done) | (with_reducible first | refine Kd ?_ | refine Kn ?_ | refine Kb (by assumption) ?_) | ((with_reducible first | refine Kw ?_ ?_ | refine Fw ?_) <;> first | with_reducible rfl | (simp; done)) | (with_reducible first | refine Ka _ ?_ | refine Ks _ (by first | exact Nat.le_refl _ | omega | (simp; done) | (simp; omega)) ?_ | refine Fd ?_ | refine Fn ?_ | refine Fb (by assumption) (by first | exact Nat.le_refl _ | omega | (simp; done) | (simp; omega)) ?_ | refine Fa _ (by first | exact Nat.le_refl _ | omega | (simp; done) | (simp; omega)) ?_ | refine Fs _ ?_)))), (by (repeat' refine And.intro ?_ ?_) <;> (repeat (first | with_reducible assumption | (simp; done) | (with_reducible first | refine Kd ?_ | refine Kn ?_ | refine Kb (by assumption) ?_) | ((with_reducible first | refine Kw ?_ ?_ | refine Fw ?_) <;> first | with_reducible rfl | (simp; done)) | (with_reducible first | refine Ka _ ?_ | refine Ks _ (by first | exact Nat.le_refl _ | omega | (simp; done) | (simp; omega)) ?_ | refine Fd ?_ | refine Fn ?_ | refine Fb (by assumption) (by first | exact Nat.le_refl _ | omega | (simp; done) | (simp; omega)) ?_ | refine Fa _ (by first | exact Nat.le_refl _ | omega | (simp; done) | (simp; omega)) ?_ | refine Fs _ ?_)))), (by (repeat' refine And.intro ?_ ?_) <;> (repeat (first | with_reducible assumption | (simp; done) | (with_reducible first | refine Kd ?_ | refine Kn ?_ | refine Kb (by assumption) ?_) | ((with_reducible first | refine Kw ?_ ?_ | refine Fw ?_) <;> first | with_reducible rfl | (simp; done)) | (with_reducible first | refine Ka _ ?_ | refine Ks _ (by first | exact Nat.le_refl _ | omega | (simp; done) | (simp; omega)) ?_ | refine Fd ?_ | refine Fn ?_ | refine Fb (by assumption) (by first | exact Nat.le_refl _ | omega | (simp; done) | (simp; omega)) ?_ | refine Fa _ (by first | exact Nat.le_refl _ | omega | (simp; done) | (simp; omega)) ?_ | refine Fs _ ?_)))), (by (repeat' refine And.intro ?_ ?_) <;> (repeat (first | with_reducible assumption | (simp; done) | (with_reducible first | refine Kd ?_ | refine Kn ?_ | refine Kb (by assumption) ?_) | ((with_reducible first | refine Kw ?_ ?_ | refine Fw ?_) <;> first | with_reducible rfl | (simp; done)) | (with_reducible first | refine Ka _ ?_ | refine Ks _ (by first | exact Nat.le_refl _ | omega | (simp; done) | (simp; omega)) ?_ | refine Fd ?_ | refine Fn ?_ | refine Fb (by assumption) (by first | exact Nat.le_refl _ | omega | (simp; done) | (simp; omega)) ?_ | refine Fa _ (by first | exact Nat.le_refl _ | omega | (simp; done) | (simp; omega)) ?_ | refine Fs _ ?_)))), (by (repeat' refine And.intro ?_ ?_) <;> (repeat (first | with_reducible assumption | (simp; done) | (with_reducible first | refine Kd ?_ | refine Kn ?_ | refine Kb (by assumption) ?_) | ((with_reducible first | refine Kw ?_ ?_ | refine Fw ?_) <;> first | with_reducible rfl | (simp; done)) | (with_reducible first | refine Ka _ ?_ | refine Ks _ (by first | exact Nat.le_refl _ | omega | (simp; done) | (simp; omega)) ?_ | refine Fd ?_ | refine Fn ?_ | refine Fb (by assumption) (by first | exact Nat.le_refl _ | omega | (simp; done) | (simp; omega)) ?_ | refine Fa _ (by first | exact Nat.le_refl _ | omega | (simp; done) | (simp; omega)) ?_ | refine Fs _ ?_))))⟩, ⟨(by (repeat' refine And.intro ?_ ?_) <;> (repeat (first | with_reducible assumption | (simp; done) | (with_reducible first | refine Kd ?_ | refine Kn ?_ | refine Kb (by assumption) ?_) | ((with_reducible first | refine Kw ?_ ?_ | refine Fw ?_) <;> first | with_reducible rfl | (simp; done)) | (with_reducible first | refine Ka _ ?_ | refine Ks _ (by first | exact Nat.le_refl _ | omega | (simp; done) | (simp; omega)) ?_ | refine Fd ?_ | refine Fn ?_ | refine Fb (by assumption) (by first | exact Nat.le_refl _ | omega | (simp; done) | (simp; omega)) ?_ | refine Fa _ (by first | exact Nat.le_refl _ | omega | (simp; done) | (simp; omega)) ?_ | refine Fs _ ?_)))), (by (repeat' refine And.intro ?_ ?_) <;> (repeat (first | with_reducible assumption | (simp; done) | (with_reducible first | refine Kd ?_ | refine Kn ?_ | refine Kb (by assumption) ?_) | ((with_reducible first | refine Kw ?_ ?_ | refine Fw ?_) <;> first | with_reducible rfl | (simp; done)) | (with_reducible first | refine Ka _ ?_ | refine Ks _ (by first | exact Nat.le_refl _ | omega | (simp; done) | (simp; omega)) ?_ | refine Fd ?_ | refine Fn ?_ | refine Fb (by assumption) (by first | exact Nat.le_refl _ | omega | (simp; done) | (simp; omega)) ?_ | refine Fa _ (by first | exact Nat.le_refl _ | omega | (simp; done) | (simp; omega)) ?_ | refine Fs _ ?_)))), (by (repeat' refine And.intro ?_ ?_) <;> (repeat (first | with_reducible assumption | (simp; done) | (with_reducible first | refine Kd ?_ | refine Kn ?_ | refine Kb (by assumption) ?_) | ((with_reducible first | refine Kw ?_ ?_ | refine Fw ?_) <;> first | with_reducible rfl | (simp; done)) | (with_reducible first | refine Ka _ ?_ | refine Ks _ (by first | exact Nat.le_refl _ | omega | (simp; done) | (simp; omega)) ?_ | refine Fd ?_ | refine Fn ?_ | refine Fb (by assumption) (by first | exact Nat.le_refl _ | omega | (simp; done) | (simp; omega)) ?_ | refine Fa _ (by first | exact Nat.le_refl _ | omega | (simp; done) | (simp; omega)) ?_ | refine Fs _ ?_)))), (by (repeat' refine And.intro ?_ ?_) <;> (repeat (first | with_reducible assumption | (simp; done) | (with_reducible first | refine Kd ?_ | refine Kn ?_ | refine Kb (by assumption) ?_) | ((with_reducible first | refine Kw ?_ ?_ | refine Fw ?_) <;> first | with_reducible rfl | (simp; done)) | (with_reducible first | refine Ka _ ?_ | refine Ks _ (by first | exact Nat.le_refl _ | omega | (simp; done) | (simp; omega)) ?_ | refine Fd ?_ | refine Fn ?_ | refine Fb (by assumption) (by first | exact Nat.le_refl _ | omega | (simp; done) | (simp; omega)) ?_ | refine Fa _ (by first | exact Nat.le_refl _ | omega | (simp; done) | (simp; omega)) ?_ | refine Fs _ ?_)))), (by (repeat' refine And.intro ?_ ?_) <;> (repeat (first | with_reducible assumption | (simp; done) | (with_reducible first | refine Kd ?_ | refine Kn ?_ | refine Kb (by assumption) ?_) | ((with_reducible first | refine Kw ?_ ?_ | refine Fw ?_) <;> first | with_reducible rfl | (simp; done)) | (with_reducible first | refine Ka _ ?_ | refine Ks _ (by first | exact Nat.le_refl _ | omega | (simp; done) | (simp; omega)) ?_ | refine Fd ?_ | refine Fn ?_ | refine Fb (by assumption) (by first | exact Nat.le_refl _ | omega | (simp; done) | (simp; omega)) ?_ | refine Fa _ (by first | exact Nat.le_refl _ | omega | (simp; done) | (simp; omega)) ?_ | refine Fs _ ?_)))), (by (repeat' refine And.intro ?_ ?_) <;> (repeat (first | with_reducible assumption | (simp; done) | (with_reducible first | refine Kd ?_ | refine Kn ?_ | refine Kb (by assumption) ?_) | ((with_reducible first | refine Kw ?_ ?_ | refine Fw ?_) <;> first | with_reducible rfl | (simp; done)) | (with_reducible first | refine Ka _ ?_ | refine Ks _ (by first | exact Nat.le_refl _ | omega | (simp; done) | (simp; omega)) ?_ | refine Fd ?_ | refine Fn ?_ | refine Fb (by assumption) (by first | exact Nat.le_refl _ | omega | (simp; done) | (simp; omega)) ?_ | refine Fa _ (by first | exact Nat.le_refl _ | omega | (simp; done) | (simp; omega)) ?_ | refine Fs _ ?_))))⟩, (by repeat (first | (with_reducible first | exact Below.refl _ _ | assumption | refine Below.drew ?_) | ((with_reducible first | refine Lc ?_ ?_ _ | refine Ls ?_ ?_ _ | refine Lv (by assumption) ?_ ?_); · first | exact Nat.le_refl _ | omega | (dsimp only; omega) | (simp only [World.size_alloc, World.size_drew, World.heap_drewN]; omega) | (simp; omega)))), by simp⟩ ?_
  rintro w1 ⟨hv1, hq1, hb1, hs1⟩
  have HV1 := Lib.hid hv1
  have HQ1 := Lib.hid hq1
  have HB1 := Lib.hid hb1
  have HC1 := Lib.hid (HC.out.later hb1)
  have HR1 := Lib.hid (H0.out.on hb1)
  have hs1' := hb1.size
  obtain ⟨c0, c1, c2, f0, f1, f2⟩ := hv1
  clear hb1 hq1 HC H0
  go_wp2_with fail
  refine (own2_any r hn1 hd1 bA dA vA bc dc vc _ HR1.out).mono ?_
  intro e w2 hpost
  obtain ⟨c, rfl, hcc, hcs, hce, hb2⟩ := CpAt.of hn1 hd1 hpost
  have hs2 := hb2.size
  have HC2 := Lib.hid hcc
  have HV2 := Lib.hid (HV1.out.same (hb2.block _ HV1.out.lt))
  have HQ2 := Lib.hid (HQ1.out.same (hb2.block _ HQ1.out.lt))
  have HB2 := Lib.hid (HB1.out.trans (hb2.mono hs1'))
  have HCh2 := Lib.hid (HC1.out.later hb2)
  clear hpost hcc hb2 c0 c1 c2 f0 f1 f2 HV1 HQ1 HB1 HC1 HR1
  obtain ⟨c0, c1, c2, f0, f1, f2⟩ := HV2.out
  go_upto_region 2 with fail
  refine wp_world (fun w' => SpAt W w' B cb lA ln lc r c.bA c.bc c.dA c.dc c.vA c.vc r.V) ?_ ?_
  · have hcp := HC2.out
    have hk : ∀ i, i ≠ W.heap.size → (((w2.setCell ⟨W.heap.size, 0, none⟩ (.slice c.bA r.n c.bc)).setCell ⟨W.heap.size, 1, none⟩ (.slice c.dA r.d c.dc)).setCell ⟨W.heap.size, 2, none⟩ (.slice c.vA r.m c.vc)).heap[i]? = w2.heap[i]? := fun i hi => (set_heap _ (by exact hi)).trans ((set_heap _ (by exact hi)).trans (set_heap _ (by exact hi)))
    obtain ⟨A, c', e0, ho, hvc⟩ := OwnWg.of hcp.v
    injection e0 with e1 e2 e3
    rw [← e1] at ho
    have hbe : Below W.heap.size W (((w2.setCell ⟨W.heap.size, 0, none⟩ (.slice c.bA r.n c.bc)).setCell ⟨W.heap.size, 1, none⟩ (.slice c.dA r.d c.dc)).setCell ⟨W.heap.size, 2, none⟩ (.slice c.vA r.m c.vc)) := ((HB2.out.setCell (by dsimp only; omega) _).setCell (by dsimp only; omega) _).setCell (by dsimp only; omega) _
    have hvb : ∀ g, c.vA = some g → c.m ≤ g.block ∧ g.block < c.e := fun g hg => by
      rcases hcp.v.2 with ⟨e0, _⟩ | ⟨q, cap, cur, e0, _⟩
      · injection e0 with e4 e5 e6
        rw [hg] at e4
        exact absurd e4 (by simp)
      · have := hcp.vl q (by rw [e0]; rfl)
        injection e0 with e4 e5 e6
        rw [hg] at e4
        injection e4 with e4
        rw [e4]
        exact this
    refine ⟨((HV2.out.set0 _).set1 _).set2 _, HQ2.out.same (hk _ (by omega)), (hcp.b.keep (fun i h1 h2 => hk i (by omega))).low (by omega), (hcp.d.keep (fun i h1 h2 => hk i (by omega))).low (by omega), ?_, fun a g ha hg => by have h1 := hcp.bl a ha; have h2 := hvb g hg; omega, fun a g ha hg => by have h1 := hcp.dl a ha; have h2 := hvb g hg; omega, ?_, hcp.cap, HOK.out, HCh2.out.keep (fun i hi => hk i (by omega)), gb_of_below cb hbe, by simp [World.setCell]; omega, hcb, hB⟩
    · have hsm := hcp.sm
      exact (ho.keep (fun i h1 h2 => hk i (by omega))).low (by omega)
    · have hsm := hcp.sm
      rintro a (h | h | h)
      · have := hcp.bl a h; omega
      · have := hcp.dl a h; omega
      · have := hvb a h; omega
  intro w3 hsp
  have HS3 := Lib.hid hsp
  clear hsp c0 c1 c2 f0 f1 f2 HC2 HV2 HQ2 HB2 HCh2
  go_wp2_with fail
  refine (pull_any B cb lA ln lc (most + 1) (by omega) hln _ HS3.out.c).mono ?_
  rintro e w4 ⟨kk, rfl, hk0, hk1, hg4, hc4⟩
  obtain ⟨nk, rfl⟩ := Int.eq_ofNat_of_zero_le hk0
  have hnk : nk ≤ 100 := by omega
  have HS4 := Lib.hid (HS3.out.pull hg4 hc4)
  clear hg4 hc4 HS3 hk0 hk1
  go_wp2_with fail
  go_loopw [13] (fun i wr => ∃ (k : Nat) (V : Nat → Wg), k ≤ nk ∧ i = .int .i64 k ∧ Hid (SpAt W wr B cb lA ln lc r c.bA c.bc c.dA c.dc c.vA c.vc V)) (fun i _ => nk - (intOf i).toNat)
  case atStart => exact ⟨0, r.V, Nat.zero_le _, rfl, HS4⟩
  case round =>
    clear HS4
    obtain ⟨k, V, hk, rfl, HS⟩ := hrel
    obtain ⟨wo, rfl⟩ : ∃ wo, wo = wr := ⟨_, rfl⟩
    by_cases hlt : k < nk
    · have hk0 : (0 : Int) ≤ (k : Int) := by omega
      have hkn : (k : Int) < (nk : Int) := by omega
      have ek : IntKind.i64.wrap ((k : Int) + 1) = (k : Int) + 1 := IntWalk.i64_in _ (by omega)
      have c2 := HS.out.o.c2
      by_cases hm0 : 0 < r.m
      · have hpp : (0 : Int) < ((r.m : Nat) : Int) := by omega
        obtain ⟨g, hA, hgl, -⟩ := HS.out.v 0 hm0
        have HA := Lib.hid hA
        have hcap := HS.out.cp.2.2
        have hs := HS.out.s
        rw [hA] at c2
        clear hA
        go_upto_region 5 with fail
        go_region_held3 (fun w' => w'.cell? ⟨W.heap.size, 2, none⟩ = some (.slice (some ⟨g, 0, none⟩) r.m c.vc)) ((go_split_ands; (repeat' refine And.intro ?_ ?_) <;> (repeat (first | with_reducible assumption | (simp; done) | (with_reducible first | refine Kd ?_ | refine Kn ?_ | refine Kb (by assumption) ?_) | ((with_reducible first | refine Kw ?_ ?_ | refine Fw ?_) <;> first | with_reducible rfl | (simp; done)) | (with_reducible first | refine Ka _ ?_ | refine Ks _ (by first | exact Nat.le_refl _ | omega | (simp; done) | (simp; omega)) ?_ | refine Fd ?_ | refine Fn ?_ | refine Fb (by assumption) (by first | exact Nat.le_refl _ | omega | (simp; done) | (simp; omega)) ?_ | refine Fa _ (by first | exact Nat.le_refl _ | omega | (simp; done) | (simp; omega)) ?_ | refine Fs _ ?_))))) (first | (have mk := H5; go_at_call 61; refine (pull_any B cb lA ln lc 120 (by omega) hln _ (H5.out.c.later (by repeat (first | (with_reducible first | exact Below.refl _ _ | assumption | refine Below.drew ?_) | ((with_reducible first | refine Lc ?_ ?_ _ | refine Ls ?_ ?_ _ | refine Lv (by assumption) ?_ ?_); · first | exact Nat.le_refl _ | omega | (dsimp only; omega) | (simp only [World.size_alloc, World.size_drew, World.heap_drewN]; omega) | (simp; omega)))))).mono ?_; rintro e w6 ⟨p, rfl, hp0, hp1, hg6, hc6⟩; have H6 := Lib.hid ((H5.out.later (show Below w5.heap.size w5 _ from (by repeat (first | (with_reducible first | exact Below.refl _ _ | assumption | refine Below.drew ?_) | ((with_reducible first | refine Lc ?_ ?_ _ | refine Ls ?_ ?_ _ | refine Lv (by assumption) ?_ ?_); · first | exact Nat.le_refl _ | omega | (dsimp only; omega) | (simp only [World.size_alloc, World.size_drew, World.heap_drewN]; omega) | (simp; omega)))))).pull hg6 hc6); have c6 := H6.out.o.c2; rw [HA.out] at c6; obtain ⟨g6, hA6, hl6, -, -, d6, -, f6⟩ := H6.out.v j hjm; rw [HA.out] at hA6; injection hA6 with hA6; injection hA6 with hA6; subst hA6; have ff6 := f6 (j * 4 + 2)) | (go_at_call 61; refine (pull_any B cb lA ln lc (r.m : Int) (by omega) hln _ (HS.out.c.later (by repeat (first | (with_reducible first | exact Below.refl _ _ | assumption | refine Below.drew ?_) | ((with_reducible first | refine Lc ?_ ?_ _ | refine Ls ?_ ?_ _ | refine Lv (by assumption) ?_ ?_); · first | exact Nat.le_refl _ | omega | (dsimp only; omega) | (simp only [World.size_alloc, World.size_drew, World.heap_drewN]; omega) | (simp; omega)))))).mono ?_; rintro e w5 ⟨j, rfl, hj0, hj1, hg5, hc5⟩; obtain ⟨j, rfl⟩ := Int.eq_ofNat_of_zero_le hj0; have hjm : j < r.m := (by omega); have hjn : (j : Int) < ((r.m : Nat) : Int) := (by omega); have hjz : (0 : Int) ≤ (j : Int) := (by omega); have H5 := Lib.hid ((HS.out.later (show Below wo.heap.size wo _ from (by repeat (first | (with_reducible first | exact Below.refl _ _ | assumption | refine Below.drew ?_) | ((with_reducible first | refine Lc ?_ ?_ _ | refine Ls ?_ ?_ _ | refine Lv (by assumption) ?_ ?_); · first | exact Nat.le_refl _ | omega | (dsimp only; omega) | (simp only [World.size_alloc, World.size_drew, World.heap_drewN]; omega) | (simp; omega)))))).pull hg5 hc5); have c5 := H5.out.o.c2; rw [HA.out] at c5))
        all_goals
          have H7 := Lib.hid (H6.out.put HOK.out HA.out hjm (p := p) (by omega))
          clear hg6 hc6 hg5 hc5 c6 c5 d6 f6 ff6 H6 H5 c2
          go_wp2_with fail
          go_roundw
          case rel => exact ⟨k + 1, _, by omega, by go_num, H7⟩
          case measure => simp [intOf]; omega
      · have hpp : ¬ (0 : Int) < ((r.m : Nat) : Int) := by omega
        clear hm0
        go_wp2_with fail
        go_roundw
        case rel => exact ⟨k + 1, V, by omega, by go_num, HS⟩
        case measure => simp [intOf]; omega
    · obtain rfl : k = nk := by omega
      have hge : ¬ (k : Int) < (k : Int) := by omega
      have hoo := HS.out.o
      have hqq := HS.out.q
      obtain ⟨c0, c1, c2, -, -, -⟩ := hoo
      obtain ⟨r0, r1, r2, f0, f1, f2⟩ := hqq
      go_wp2_with fail
      refine name_post ?_
      intro w' hw
      have hkk : ∀ i, i ≠ W.heap.size + 1 → w'.heap[i]? = wo.heap[i]? := fun i hi => by
        rw [hw]
        exact (set_heap _ (by exact hi)).trans ((set_heap _ (by exact hi)).trans (set_heap _ (by exact hi)))
      have hsz : wo.heap.size ≤ w'.heap.size := by
        rw [hw]
        simp [World.setCell]
      have hgb : W.grownBy w' (some cb) := by
        rw [hw]
        exact gb_cell (gb_cell (gb_cell HS.out.g (by dsimp only; omega) _) (by dsimp only; omega) _) (by dsimp only; omega) _
      have hres : w'.cell? ⟨W.heap.size + 1, 0, none⟩ = some (.slice c.bA r.n c.bc) ∧ w'.cell? ⟨W.heap.size + 1, 1, none⟩ = some (.slice c.dA r.d c.dc) ∧ w'.cell? ⟨W.heap.size + 1, 2, none⟩ = some (.slice c.vA r.m c.vc) := by
        rw [hw]
        exact ⟨by simp [go_sem, r0], by simp [go_sem, r0, r1], by simp [go_sem, r0, r1, r2]⟩
      clear hw
      obtain ⟨s0, s1, s2⟩ := hres
      have hs := HS.out.s
      have hrow : RwRow wo wo.heap.size (r.spo V) c.bA c.bc c.dA c.dc c.vA c.vc := ⟨Nat.le_refl _, HS.out.b.row, HS.out.d.row, HS.out.v.row, by show r.n ≤ 1000; have := HOK.out.n6; omega, by show r.d ≤ 1000; have := HOK.out.d7; omega, by show r.m ≤ 1000; omega, HS.out.cp.1, HS.out.cp.2.1, HS.out.cp.2.2⟩
      exact bodyPost_ret (v := rwV c.bA r.n c.bc c.dA r.d c.dc c.vA r.m c.vc) (by simp [results, Tryz.results55, go_sem, s0, s1, s2]) rfl ⟨r.spo V, c.bA, c.dA, c.vA, c.bc, c.dc, c.vc, rfl, rfl, rfl, rfl, HS.out.ok, hrow.keepS (fun a ha => hkk _ (by have := HS.out.l a ha; omega)) hsz (Nat.le_refl _), HS.out.l, hgb, HS.out.c.keep (fun i hi => hkk i (by omega))⟩
end Go.Proofs.YtnnikeolgknfoaaGreat

set_option linter.unusedSimpArgs false
set_option linter.unusedVariables false
namespace Go.Proofs.YtnnikeolgknfoaaGreat

/-- the block of a number -/
def blkOf (n : Nat) : Code → Option Code
  | .block m b => match Nat.beq m n with
    | true => some (.block m b)
    | false => blkOf n b
  | .seq x y => match blkOf n x with
    | some c => some c
    | none => blkOf n y
  | .loop b => blkOf n b
  | .cond _ x y => match blkOf n x with
    | some c => some c
    | none => blkOf n y
  | .scope b => blkOf n b
  | _ => none
/-- a block of a function's body -/
def blkIn (f : Func) (n : Nat) : Code := (blkOf n (f.body.getD .skip)).getD .skip
/-- what a function's spine is from a region on -/
def fromRg (n : Nat) : Code → Code
  | .seq (.region m ops b) y => match Nat.beq m n with
    | true => .seq (.region m ops b) y
    | false => fromRg n y
  | .seq _ y => fromRg n y
  | c => c
def hdRg : Code → Code
  | .seq a _ => a
  | c => c
def tlRg : Code → Code
  | .seq _ b => b
  | c => c
end Go.Proofs.YtnnikeolgknfoaaGreat

set_option linter.unusedSimpArgs false
set_option linter.unusedVariables false
namespace Go.Proofs.YtnnikeolgknfoaaGreat
open Go.RowKit Go.Shelf

/-- the row in its box -/
def TrB (W w : World) (rb : Nat) (r : Rw) (bA : Option Addr) (bc : Nat) (dA : Option Addr) (dc : Nat) (vA : Option Addr) (vc : Nat) : Prop := RwAt w rb r bA bc dA dc vA vc ∧ RwRow w w.heap.size r bA bc dA dc vA vc ∧ Below W.heap.size W w
theorem TrB.later {W w w' : World} {rb : Nat} {r : Rw} {bA : Option Addr} {bc : Nat} {dA : Option Addr} {dc : Nat} {vA : Option Addr} {vc : Nat} (h : TrB W w rb r bA bc dA dc vA vc) (hb : Below w.heap.size w w') : TrB W w' rb r bA bc dA dc vA vc :=
  ⟨h.1.later hb, h.2.1.on hb, h.2.2.trans (hb.mono h.2.2.size)⟩
theorem IntRow.on {w w' : World} {A : Option Addr} {n : Nat} {P : Nat → Int} (h : IntRow w w.heap.size A n P) (hb : Below w.heap.size w w') : IntRow w' w'.heap.size A n P := (h.below hb).mono hb.size
theorem V3.newT (w : World) (t : TypeId) (x y z : Value) : V3 (w.alloc (.cells #[x, y, z] t)) w.heap.size x y z := ⟨(by (repeat' refine And.intro ?_ ?_) <;> (repeat (first | with_reducible assumption | (simp; done) | (with_reducible first | refine Kd ?_ | refine Kn ?_ | refine Kb (by assumption) ?_) | ((with_reducible first | refine Kw ?_ ?_ | refine Fw ?_) <;> first | with_reducible rfl | (simp; done)) | (with_reducible first | refine Ka _ ?_ | refine Ks _ (by first | exact Nat.le_refl _ | omega | (simp; done) | (simp; omega)) ?_ | refine Fd ?_ | refine Fn ?_ | refine Fb (by assumption) (by first | exact Nat.le_refl _ | omega | (simp; done) | (simp; omega)) ?_ | refine Fa _ (by first | exact Nat.le_refl _ | omega | (simp; done) | (simp; omega)) ?_ | refine Fs _ ?_)))), (by (repeat' refine And.intro ?_ ?_) <;> (repeat (first | with_reducible assumption | (simp; done) | (with_reducible first | refine Kd ?_ | refine Kn ?_ | refine Kb (by assumption) ?_) | ((with_reducible first | refine Kw ?_ ?_ | refine Fw ?_) <;> first | with_reducible rfl | (simp; done)) | (with_reducible first | refine Ka _ ?_ | refine Ks _ (by first | exact Nat.le_refl _ | omega | (simp; done) | (simp; omega)) ?_ | refine Fd ?_ | refine Fn ?_ | refine Fb (by assumption) (by first | exact Nat.le_refl _ | omega | (simp; done) | (simp; omega)) ?_ | refine Fa _ (by first | exact Nat.le_refl _ | omega | (simp; done) | (simp; omega)) ?_ | refine Fs _ ?_)))), (by (repeat' refine And.intro ?_ ?_) <;> (repeat (first | with_reducible assumption | (simp; done) | (with_reducible first | refine Kd ?_ | refine Kn ?_ | refine Kb (by assumption) ?_) | ((with_reducible first | refine Kw ?_ ?_ | refine Fw ?_) <;> first | with_reducible rfl | (simp; done)) | (with_reducible first | refine Ka _ ?_ | refine Ks _ (by first | exact Nat.le_refl _ | omega | (simp; done) | (simp; omega)) ?_ | refine Fd ?_ | refine Fn ?_ | refine Fb (by assumption) (by first | exact Nat.le_refl _ | omega | (simp; done) | (simp; omega)) ?_ | refine Fa _ (by first | exact Nat.le_refl _ | omega | (simp; done) | (simp; omega)) ?_ | refine Fs _ ?_)))), (by (repeat' refine And.intro ?_ ?_) <;> (repeat (first | with_reducible assumption | (simp; done) | (with_reducible first | refine Kd ?_ | refine Kn ?_ | refine Kb (by assumption) ?_) | ((with_reducible first | refine Kw ?_ ?_ | refine Fw ?_) <;> first | with_reducible rfl | (simp; done)) | (with_reducible first | refine Ka _ ?_ | refine Ks _ (by first | exact Nat.le_refl _ | omega | (simp; done) | (simp; omega)) ?_ | refine Fd ?_ | refine Fn ?_ | refine Fb (by assumption) (by first | exact Nat.le_refl _ | omega | (simp; done) | (simp; omega)) ?_ | refine Fa _ (by first | exact Nat.le_refl _ | omega | (simp; done) | (simp; omega)) ?_ | refine Fs _ ?_)))), (by (repeat' refine And.intro ?_ ?_) <;> (repeat (first | with_reducible assumption | (simp; done) | (with_reducible first | refine Kd ?_ | refine Kn ?_ | refine Kb (by assumption) ?_) | ((with_reducible first | refine Kw ?_ ?_ | refine Fw ?_) <;> first | with_reducible rfl | (simp; done)) | (with_reducible first | refine Ka _ ?_ | refine Ks _ (by first | exact Nat.le_refl _ | omega | (simp; done) | (simp; omega)) ?_ | refine Fd ?_ | refine Fn ?_ | refine Fb (by assumption) (by first | exact Nat.le_refl _ | omega | (simp; done) | (simp; omega)) ?_ | refine Fa _ (by first | exact Nat.le_refl _ | omega | (simp; done) | (simp; omega)) ?_ | refine Fs _ ?_)))), (by (repeat' refine And.intro ?_ ?_) <;> (repeat (first | with_reducible assumption | (simp; done) | (with_reducible first | refine Kd ?_ | refine Kn ?_ | refine Kb (by assumption) ?_) | ((with_reducible first | refine Kw ?_ ?_ | refine Fw ?_) <;> first | with_reducible rfl | (simp; done)) | (with_reducible first | refine Ka _ ?_ | refine Ks _ (by first | exact Nat.le_refl _ | omega | (simp; done) | (simp; omega)) ?_ | refine Fd ?_ | refine Fn ?_ | refine Fb (by assumption) (by first | exact Nat.le_refl _ | omega | (simp; done) | (simp; omega)) ?_ | refine Fa _ (by first | exact Nat.le_refl _ | omega | (simp; done) | (simp; omega)) ?_ | refine Fs _ ?_))))⟩
theorem spo_closeT {W w : World} {z : Nat} {r : Rw} {bA dA vA : Option Addr} {bc dc vc : Nat} (v : V3 w z (.slice none 0 0) (.slice none 0 0) (.slice none 0 0)) (hr : RwRow w w.heap.size r bA bc dA dc vA vc) (hne : ∀ a, bA = some a ∨ dA = some a ∨ vA = some a → a.block ≠ z) (hb : Below W.heap.size W w) (hz : W.heap.size ≤ z) :
    RwAt (((w.setCell ⟨z, 0, none⟩ (.slice bA r.n bc)).setCell ⟨z, 1, none⟩ (.slice dA r.d dc)).setCell ⟨z, 2, none⟩ (.slice vA r.m vc)) z r bA bc dA dc vA vc ∧ RwRow (((w.setCell ⟨z, 0, none⟩ (.slice bA r.n bc)).setCell ⟨z, 1, none⟩ (.slice dA r.d dc)).setCell ⟨z, 2, none⟩ (.slice vA r.m vc)) (((w.setCell ⟨z, 0, none⟩ (.slice bA r.n bc)).setCell ⟨z, 1, none⟩ (.slice dA r.d dc)).setCell ⟨z, 2, none⟩ (.slice vA r.m vc)).heap.size r bA bc dA dc vA vc ∧ Below W.heap.size W (((w.setCell ⟨z, 0, none⟩ (.slice bA r.n bc)).setCell ⟨z, 1, none⟩ (.slice dA r.d dc)).setCell ⟨z, 2, none⟩ (.slice vA r.m vc)) := by
  have h3 := ((v.set0 (.slice bA r.n bc)).set1 (.slice dA r.d dc)).set2 (.slice vA r.m vc)
  exact ⟨⟨h3.c0, h3.c1, h3.c2⟩, hr.keepS (fun a ha => by
    have h1 := hne a ha
    exact (set_heap _ (by exact h1)).trans ((set_heap _ (by exact h1)).trans (set_heap _ (by exact h1)))) (by simp [World.setCell]) (Nat.le_refl _), ((hb.setCell (by exact hz) _).setCell (by exact hz) _).setCell (by exact hz) _⟩


set_option maxRecDepth 100000 in
set_option maxHeartbeats 3000000 in
theorem torn_law (nA : Option Addr) (nn nc : Nat) (tA : Option Addr) (tn tc : Nat) (W : World) (hby : ByIn W W.heap.size nA nn) (hln : nn ≤ 9223372036854775807) (hby2 : ByIn W W.heap.size tA tn) (hln2 : tn ≤ 9223372036854775807) :
    Calls Tryz.prog 9 #[.slice nA nn nc, .slice tA tn tc] W fun e W' => e = .returned (.bool true) ∧ Below W.heap.size W W' := by
  have HBY := Lib.hid hby
  have HBY2 := Lib.hid hby2
  clear hby hby2
  go_enter Tryz.func9, Tryz.ntmps9
  go_wp2_with fail
  refine (fill_any W.heap.size nA nn nc _ (Nat.le_refl _) HBY.out).mono ?_
  rintro e w1 ⟨cb, rfl, hcb, hb1, hch⟩
  have HB1 := Lib.hid hb1
  have HC1 := Lib.hid hch
  have hs1 := hb1.size
  have hcl : cb < w1.heap.size := by
    obtain ⟨u, z, _, h⟩ := hch
    exact h.lt
  clear hb1 hch
  go_wp2_with fail
  refine (made_any 5 6 (by omega) (by omega) W.heap.size cb nA nn nc hln _ hs1 hcl HC1.out).mono ?_
  rintro e w2 ⟨r0, X, bA, dA, vA, xA, bc, dc, vc, xc, rfl, hmd, hob, hod, hov, hox, ⟨hbc, hdc, hvc, hxc⟩, hg2, hc2⟩
  have hok := hmd.ok (by omega) (by omega)
  have HOK := Lib.hid hok
  have hd1 := hmd.d.1
  have HB2 := Lib.hid (HB1.out.trans (gb_below hg2 hs1 hcb))
  have HR2 : Hid (RwRow w2 w2.heap.size r0 bA bc dA dc vA vc) := Lib.hid ⟨Nat.le_refl _, hob.row, hod.row, hov.row, by have := hok.n6; omega, by have := hok.d7; omega, by have := hok.m10; omega, hbc, hdc, hvc⟩
  have hs2 := HB2.out.size
  clear hmd hob hod hov hox hg2 hc2 hok HB1 HC1 HBY hs1 hcl hcb hbc hdc hvc
  go_upto_region 2 with fail
  refine wp_world (fun w' => RwAt w' w2.heap.size r0 bA bc dA dc vA vc ∧ Below w2.heap.size w2 w' ∧ w2.heap.size + 1 ≤ w'.heap.size) ⟨⟨(by (repeat' refine And.intro ?_ ?_) <;> (repeat (first | with_reducible assumption | (simp; done) | (with_reducible first | refine Kd ?_ | refine Kn ?_ | refine Kb (by assumption) ?_) | ((with_reducible first | refine Kw ?_ ?_ | refine Fw ?_) <;> first | with_reducible rfl | (simp; done)) | (with_reducible first | refine Ka _ ?_ | refine Ks _ (by first | exact Nat.le_refl _ | omega | (simp; done) | (simp; omega)) ?_ | refine Fd ?_ | refine Fn ?_ | refine Fb (by assumption) (by first | exact Nat.le_refl _ | omega | (simp; done) | (simp; omega)) ?_ | refine Fa _ (by first | exact Nat.le_refl _ | omega | (simp; done) | (simp; omega)) ?_ | refine Fs _ ?_)))), (by (repeat' refine And.intro ?_ ?_) <;> (repeat (first | with_reducible assumption | (simp; done) | (with_reducible first | refine Kd ?_ | refine Kn ?_ | refine Kb (by assumption) ?_) | ((with_reducible first | refine Kw ?_ ?_ | refine Fw ?_) <;> first | with_reducible rfl | (simp; done)) | (with_reducible first | refine Ka _ ?_ | refine Ks _ (by first | exact Nat.le_refl _ | omega | (simp; done) | (simp; omega)) ?_ | refine Fd ?_ | refine Fn ?_ | refine Fb (by assumption) (by first | exact Nat.le_refl _ | omega | (simp; done) | (simp; omega)) ?_ | refine Fa _ (by first | exact Nat.le_refl _ | omega | (simp; done) | (simp; omega)) ?_ | refine Fs _ ?_)))), (by (repeat' refine And.intro ?_ ?_) <;> (repeat (first | with_reducible assumption | (simp; done) | (with_reducible first | refine Kd ?_ | refine Kn ?_ | refine Kb (by assumption) ?_) | ((with_reducible first | refine Kw ?_ ?_ | refine Fw ?_) <;> first | with_reducible rfl | (simp; done)) | (with_reducible first | refine Ka _ ?_ | refine Ks _ (by first | exact Nat.le_refl _ | omega | (simp; done) | (simp; omega)) ?_ | refine Fd ?_ | refine Fn ?_ | refine Fb (by assumption) (by first | exact Nat.le_refl _ | omega | (simp; done) | (simp; omega)) ?_ | refine Fa _ (by first | exact Nat.le_refl _ | omega | (simp; done) | (simp; omega)) ?_ | refine Fs _ ?_))))⟩, (by repeat (first | (with_reducible first | exact Below.refl _ _ | assumption | refine Below.drew ?_) | ((with_reducible first | refine Lc ?_ ?_ _ | refine Ls ?_ ?_ _ | refine Lv (by assumption) ?_ ?_); · first | exact Nat.le_refl _ | omega | (dsimp only; omega) | (simp only [World.size_alloc, World.size_drew, World.heap_drewN]; omega) | (simp; omega)))), by simp⟩ ?_
  rintro w3 ⟨hx3, hb3, hs3⟩
  have HR3 := Lib.hid (HR2.out.on hb3)
  have HB3 := Lib.hid (HB2.out.trans (hb3.mono hs2))
  have hs3' := HB3.out.size
  obtain ⟨c0, c1, c2⟩ := hx3
  obtain ⟨rx, hrx⟩ : ∃ rx, rx = w2.heap.size := ⟨_, rfl⟩
  rw [← hrx] at hs3 c0 c1 c2 hs2
  rw [← hrx]
  clear hb3 HR2 HB2 hrx
  go_cut [7] (fun s7 wx => ∃ (rb : Nat) (r : Rw) (bA dA vA : Option Addr) (bc dc vc : Nat), s7 = .pointer (some ⟨rb, 0, none⟩) ∧ Hid r.ok ∧ 1 ≤ r.d ∧ Hid (RwAt wx rb r bA bc dA dc vA vc ∧ RwRow wx wx.heap.size r bA bc dA dc vA vc ∧ Below W.heap.size W wx))
  case first =>
    go_region_held3 (fun w' => w'.cell? ⟨rx, 0, none⟩ = some (.slice bA r0.n bc) ∧ w'.cell? ⟨rx, 1, none⟩ = some (.slice dA r0.d dc) ∧ w'.cell? ⟨rx, 2, none⟩ = some (.slice vA r0.m vc)) ((go_split_ands; (repeat' refine And.intro ?_ ?_) <;> (repeat (first | with_reducible assumption | (simp; done) | (with_reducible first | refine Kd ?_ | refine Kn ?_ | refine Kb (by assumption) ?_) | ((with_reducible first | refine Kw ?_ ?_ | refine Fw ?_) <;> first | with_reducible rfl | (simp; done)) | (with_reducible first | refine Ka _ ?_ | refine Ks _ (by first | exact Nat.le_refl _ | omega | (simp; done) | (simp; omega)) ?_ | refine Fd ?_ | refine Fn ?_ | refine Fb (by assumption) (by first | exact Nat.le_refl _ | omega | (simp; done) | (simp; omega)) ?_ | refine Fa _ (by first | exact Nat.le_refl _ | omega | (simp; done) | (simp; omega)) ?_ | refine Fs _ ?_))))) (first | (go_at_call 54; refine (fill_any W.heap.size tA tn tc _ (by (first | omega | (simp only [World.size_alloc, World.size_drew]; omega) | (simp; done) | (simp; omega))) (HBY2.out.later (HB3.out.trans (show Below W.heap.size w3 _ from ((show Below w3.heap.size w3 _ from (by repeat (first | (with_reducible first | exact Below.refl _ _ | assumption | refine Below.drew ?_) | ((with_reducible first | refine Lc ?_ ?_ _ | refine Ls ?_ ?_ _ | refine Lv (by assumption) ?_ ?_); · first | exact Nat.le_refl _ | omega | (dsimp only; omega) | (simp only [World.size_alloc, World.size_drew, World.heap_drewN]; omega) | (simp; omega))))).mono hs3'))))).mono ?_; rintro e wa ⟨qb, rfl, hqb, hba, hch⟩; have hza := hba.size; (try simp only [World.size_drew, World.heap_drewN, World.size_alloc] at hza hqb); have hql : qb < wa.heap.size := (by obtain ⟨u, z, _, h⟩ := hch; exact h.lt); have HB3a := Lib.hid (show Below w3.heap.size w3 wa from (by repeat (first | (with_reducible first | exact Below.refl _ _ | assumption | refine Below.drew ?_) | ((with_reducible first | refine Lc ?_ ?_ _ | refine Ls ?_ ?_ _ | refine Lv (by assumption) ?_ ?_); · first | exact Nat.le_refl _ | omega | (dsimp only; omega) | (simp only [World.size_alloc, World.size_drew, World.heap_drewN]; omega) | (simp; omega))))); (try (refine lay_in (A := ((wa.cell? ⟨w3.heap.size, 0, none⟩ = some (.slice none 0 0) ∧ wa.cell? ⟨w3.heap.size, 1, none⟩ = some (.slice none 0 0) ∧ wa.cell? ⟨w3.heap.size, 2, none⟩ = some (.slice none 0 0)) ∧ wa.frozen? ⟨w3.heap.size, 0, none⟩ = false ∧ wa.frozen? ⟨w3.heap.size, 1, none⟩ = false ∧ wa.frozen? ⟨w3.heap.size, 2, none⟩ = false)) ?_ ?_; (· ((go_split_ands; (repeat' refine And.intro ?_ ?_) <;> (repeat (first | with_reducible assumption | (simp; done) | (with_reducible first | refine Kd ?_ | refine Kn ?_ | refine Kb (by assumption) ?_) | ((with_reducible first | refine Kw ?_ ?_ | refine Fw ?_) <;> first | with_reducible rfl | (simp; done)) | (with_reducible first | refine Ka _ ?_ | refine Ks _ (by first | exact Nat.le_refl _ | omega | (simp; done) | (simp; omega)) ?_ | refine Fd ?_ | refine Fn ?_ | refine Fb (by assumption) (by first | exact Nat.le_refl _ | omega | (simp; done) | (simp; omega)) ?_ | refine Fa _ (by first | exact Nat.le_refl _ | omega | (simp; done) | (simp; omega)) ?_ | refine Fs _ ?_)))))); rintro ⟨⟨v0, v1, v2⟩, g0, g1, g2⟩))) | (go_at_call 55; refine (spoiled_any 4 (by omega) r0 HOK.out hd1 bA dA vA bc dc vc W.heap.size qb tA tn tc hln2 _ (by (first | omega | (simp only [World.size_alloc, World.size_drew]; omega) | (simp; done) | (simp; omega))) (by (first | omega | (simp only [World.size_alloc, World.size_drew]; omega) | (simp; done) | (simp; omega))) (hch.later (by repeat (first | (with_reducible first | exact Below.refl _ _ | assumption | refine Below.drew ?_) | ((with_reducible first | refine Lc ?_ ?_ _ | refine Ls ?_ ?_ _ | refine Lv (by assumption) ?_ ?_); · first | exact Nat.le_refl _ | omega | (dsimp only; omega) | (simp only [World.size_alloc, World.size_drew, World.heap_drewN]; omega) | (simp; omega))))) ((HR3.out.on HB3a.out).on (show Below wa.heap.size wa _ from (by repeat (first | (with_reducible first | exact Below.refl _ _ | assumption | refine Below.drew ?_) | ((with_reducible first | refine Lc ?_ ?_ _ | refine Ls ?_ ?_ _ | refine Lv (by assumption) ?_ ?_); · first | exact Nat.le_refl _ | omega | (dsimp only; omega) | (simp only [World.size_alloc, World.size_drew, World.heap_drewN]; omega) | (simp; omega))))))).mono ?_; rintro e ws ⟨r, bA', dA', vA', bc', dc', vc', rfl, hrn, hrd, hrm, hro, hrr, hrl, hgs, hcs⟩; have HRN := Lib.hid (And.intro hrn (And.intro hrd hrm)); clear hrn hrd hrm; have hzs := hgs.size; (try simp only [World.size_drew, World.heap_drewN, World.size_alloc] at hzs hrl); have c0s : ws.cell? ⟨rx, 0, none⟩ = some (.slice bA r0.n bc) := (by refine (hgs.cell_far _ ?_ ?_).trans ?_; (· (first | omega | (simp only [World.size_alloc, World.size_drew]; omega) | (simp; done) | (simp; omega))); (· (intro e; injection e with e; (try dsimp only at e); omega)); (· (repeat (first | with_reducible assumption | (simp; done) | (with_reducible first | refine Kd ?_ | refine Kn ?_ | refine Kb (by assumption) ?_) | ((with_reducible first | refine Kw ?_ ?_ | refine Fw ?_) <;> first | with_reducible rfl | (simp; done)) | (with_reducible first | refine Ka _ ?_ | refine Ks _ (by first | exact Nat.le_refl _ | omega | (simp; done) | (simp; omega)) ?_ | refine Fd ?_ | refine Fn ?_ | refine Fb (by assumption) (by first | exact Nat.le_refl _ | omega | (simp; done) | (simp; omega)) ?_ | refine Fa _ (by first | exact Nat.le_refl _ | omega | (simp; done) | (simp; omega)) ?_ | refine Fs _ ?_))))); have c1s : ws.cell? ⟨rx, 1, none⟩ = some (.slice dA r0.d dc) := (by refine (hgs.cell_far _ ?_ ?_).trans ?_; (· (first | omega | (simp only [World.size_alloc, World.size_drew]; omega) | (simp; done) | (simp; omega))); (· (intro e; injection e with e; (try dsimp only at e); omega)); (· (repeat (first | with_reducible assumption | (simp; done) | (with_reducible first | refine Kd ?_ | refine Kn ?_ | refine Kb (by assumption) ?_) | ((with_reducible first | refine Kw ?_ ?_ | refine Fw ?_) <;> first | with_reducible rfl | (simp; done)) | (with_reducible first | refine Ka _ ?_ | refine Ks _ (by first | exact Nat.le_refl _ | omega | (simp; done) | (simp; omega)) ?_ | refine Fd ?_ | refine Fn ?_ | refine Fb (by assumption) (by first | exact Nat.le_refl _ | omega | (simp; done) | (simp; omega)) ?_ | refine Fa _ (by first | exact Nat.le_refl _ | omega | (simp; done) | (simp; omega)) ?_ | refine Fs _ ?_))))); have c2s : ws.cell? ⟨rx, 2, none⟩ = some (.slice vA r0.m vc) := (by refine (hgs.cell_far _ ?_ ?_).trans ?_; (· (first | omega | (simp only [World.size_alloc, World.size_drew]; omega) | (simp; done) | (simp; omega))); (· (intro e; injection e with e; (try dsimp only at e); omega)); (· (repeat (first | with_reducible assumption | (simp; done) | (with_reducible first | refine Kd ?_ | refine Kn ?_ | refine Kb (by assumption) ?_) | ((with_reducible first | refine Kw ?_ ?_ | refine Fw ?_) <;> first | with_reducible rfl | (simp; done)) | (with_reducible first | refine Ka _ ?_ | refine Ks _ (by first | exact Nat.le_refl _ | omega | (simp; done) | (simp; omega)) ?_ | refine Fd ?_ | refine Fn ?_ | refine Fb (by assumption) (by first | exact Nat.le_refl _ | omega | (simp; done) | (simp; omega)) ?_ | refine Fa _ (by first | exact Nat.le_refl _ | omega | (simp; done) | (simp; omega)) ?_ | refine Fs _ ?_))))); (try (have sA : ws.heap[w3.heap.size]? = wa.heap[w3.heap.size]? := hgs.block _ (by (first | omega | (simp only [World.size_alloc, World.size_drew]; omega) | (simp; done) | (simp; omega))) (fun e => by injection e with e; omega); have VA : V3 ws w3.heap.size (.slice none 0 0) (.slice none 0 0) (.slice none 0 0) := ⟨cell_same sA v0, cell_same sA v1, cell_same sA v2, fro_same sA g0, fro_same sA g1, fro_same sA g2⟩; obtain ⟨b0, b1, b2, k0, k1, k2⟩ := VA)); (try (have VB := (V3.newT wa 26 (.slice none 0 0) (.slice none 0 0) (.slice none 0 0)).same (hgs.block _ (by (first | omega | (simp only [World.size_alloc, World.size_drew]; omega) | (simp; done) | (simp; omega))) (fun e => by injection e with e; omega)); obtain ⟨b0, b1, b2, k0, k1, k2⟩ := VB))) | fail)
    all_goals
      have hlow : Below W.heap.size W wa := HB3.out.trans (HB3a.out.mono hs3')
      have hrd1 : 1 ≤ r.d := by have := HRN.out.2.1; omega
      have hq1 : W.heap.size ≤ qb := by omega
      go_wp2_with fail
      go_meet
      first
        | exact ⟨w3.heap.size, r, _, _, _, _, _, _, rfl, Lib.hid hro, hrd1, Lib.hid (spo_closeT ⟨b0, b1, b2, k0, k1, k2⟩ hrr (fun a ha => by have := hrl a ha; omega) (hlow.trans (gb_below hgs (by omega) hq1)) hs3')⟩
        | exact ⟨wa.heap.size, r, _, _, _, _, _, _, rfl, Lib.hid hro, hrd1, Lib.hid (spo_closeT ⟨b0, b1, b2, k0, k1, k2⟩ hrr (fun a ha => by have := hrl a ha; omega) ((hlow.alloc (by omega) _).trans (gb_below hgs (by simp; omega) hq1)) (by omega))⟩
        | exact ⟨ws.heap.size, r, _, _, _, _, _, _, rfl, Lib.hid hro, hrd1, Lib.hid ⟨⟨(V3.newT ws 26 _ _ _).c0, (V3.newT ws 26 _ _ _).c1, (V3.newT ws 26 _ _ _).c2⟩, hrr.on ((Below.refl _ ws).alloc (Nat.le_refl _) _), (hlow.trans (gb_below hgs (by omega) hq1)).alloc (by omega) _⟩⟩
  case rest =>
    obtain ⟨rb, r, bA1, dA1, vA1, bc1, dc1, vc1, rfl, HO, hrd1, HX0⟩ := hcut
    have HX : Hid (TrB W wc rb r bA1 bc1 dA1 dc1 vA1 vc1) := Lib.hid HX0.out
    clear HR3 HB3 HBY2 HOK HX0 c0 c1 c2
    have hm10 := HO.out.m10
    have HCK := Lib.hid (Rw.check_ok.2 HO.out)
    have hlc : r.clashL.length ≤ r.m := Rw.clN_len r r.m
    have hlf : r.fewL.length ≤ r.m := Rw.fwN_len r _
    rcases Rw.torn_fit HO.out with ⟨ht, hf⟩ | ⟨ht, hf⟩
    · obtain ⟨hfew, hround, hfit, hclash⟩ := Rw.torn_not HO.out ht
      have HF := Lib.hid (And.intro hfew (And.intro hround (And.intro hfit hclash)))
      clear ht hf hfew hround hfit hclash hlc hlf
      obtain ⟨c0, c1, c2⟩ := HX.out.1
      go_wp2_with fail
      refine (Truth_any r HF.out.2.2.1 bA1 dA1 vA1 bc1 dc1 vc1 _ HX.out.2.1).mono ?_
      rintro e w4 ⟨A4, q4, rfl, -, hb4⟩
      have HX4 := Lib.hid (HX.out.later hb4)
      clear hb4 HX c0 c1 c2
      obtain ⟨c0, c1, c2⟩ := HX4.out.1
      go_wp2_with fail
      refine (Round_any r bA1 dA1 vA1 bc1 dc1 vc1 _ HX4.out.2.1).mono ?_
      rintro e w5 (⟨-, hne, -⟩ | ⟨h0, h1, rfl, hb5⟩ | ⟨h0, -⟩)
      · exact absurd HF.out.2.1 hne
      · have HX5 := Lib.hid (HX4.out.later hb5)
        clear hb5 HX4 c0 c1 c2 h0 h1
        obtain ⟨c0, c1, c2⟩ := HX5.out.1
        go_wp2_with fail
        refine (Clash_any r bA1 dA1 vA1 bc1 dc1 vc1 _ HX5.out.2.1).mono ?_
        rintro e w6 (⟨h0, -⟩ | ⟨h0, rfl, hb6⟩)
        · rw [HF.out.2.2.2] at h0
          exact absurd h0 (by decide)
        · rw [HF.out.2.2.2]
          have HX6 := Lib.hid (HX5.out.later hb6)
          clear hb6 HX5 c0 c1 c2 h0
          obtain ⟨c0, c1, c2⟩ := HX6.out.1
          go_wp2_with fail
          refine (Fewest_any r bA1 dA1 vA1 bc1 dc1 vc1 _ HX6.out.2.1).mono ?_
          intro e w7 hpost
          obtain ⟨A7, q7, rfl, -, hb7⟩ := nat_of hpost HCK.out
          rw [HF.out.1]
          have HX7 := Lib.hid (HX6.out.later hb7)
          clear hb7 HX6 c0 c1 c2 hpost
          go_wp2_with fail
          refine (awake_any _).mono ?_
          rintro e w8 ⟨rfl, hb8⟩
          have HB8 := Lib.hid (HX7.out.later hb8).2.2
          clear hb8 HX7
          go_wp2_with fail
          go_ret
          exact ⟨rfl, HB8.out⟩
      · exact absurd HCK.out h0
    · have hall := Rw.torn_all HO.out ht
      have HA := Lib.hid hall
      have hclash : r.clashErr = 0 := by
        unfold Rw.clashErr
        rw [if_neg (by rw [HCK.out]; decide), if_pos ht]
      have hround : r.round ≠ [] := fun h => by
        have := Rw.fit_zero HO.out h
        rw [hf] at this
        exact absurd this (by decide)
      have hT := Rw.round_torn HO.out hround
      have HT := Lib.hid hT
      have HF := Lib.hid (And.intro hclash (And.intro hround hf))
      have hrl := hT.m
      clear ht hf hclash hround hT hall
      obtain ⟨c0, c1, c2⟩ := HX.out.1
      go_wp2_with fail
      refine (Truth_no r (by rw [HF.out.2.2]; decide) bA1 dA1 vA1 bc1 dc1 vc1 _ HX.out.2.1).mono ?_
      rintro e w4 ⟨rfl, hb4⟩
      rw [HF.out.2.2]
      have HX4 := Lib.hid (HX.out.later hb4)
      clear hb4 HX c0 c1 c2
      obtain ⟨c0, c1, c2⟩ := HX4.out.1
      go_wp2_with fail
      refine (Round_any r bA1 dA1 vA1 bc1 dc1 vc1 _ HX4.out.2.1).mono ?_
      rintro e w5 (⟨-, -, A5, q5, rfl, ho5, hb5⟩ | ⟨-, h1, -⟩ | ⟨h0, -⟩)
      · have HX5 := Lib.hid (HX4.out.later hb5)
        obtain ⟨A5', q5', he5, how5, -⟩ := ownFc_of ho5 rfl
        injection he5 with e1 _ e2
        rw [← e1] at how5
        obtain ⟨rl, hrl'⟩ : ∃ n, n = r.round.length := ⟨_, rfl⟩
        have HRL := Lib.hid hrl'
        have HR5 : Hid (FcRow w5 w5.heap.size A5 rl (fun k => r.round.getD k fc0)) := Lib.hid (by rw [hrl']; exact how5.row)
        have hex : ∃ j, j < rl ∧ (r.round.getD j fc0).w = true := by
          obtain ⟨f, hfm, hfw⟩ := HT.out.has HO.out
          obtain ⟨j, hj, e⟩ := List.getElem_of_mem hfm
          refine ⟨j, by rw [hrl']; exact hj, ?_⟩
          rw [List.getD_eq_getElem?_getD, List.getElem?_eq_getElem hj, Option.getD_some, e]
          exact hfw
        have HEX := Lib.hid hex
        have HCN : Hid (r.contraR rl (fun k => r.round.getD k fc0) = (true, 0)) := Lib.hid (by rw [hrl']; exact HT.out.contra HO.out (fun j _ => rfl))
        rw [← hrl'] at hrl ⊢
        clear hb5 ho5 how5 e1 e2 HX4 c0 c1 c2 hex hrl'
        obtain ⟨c0, c1, c2⟩ := HX5.out.1
        go_wp2_with fail
        refine (Clash_any r bA1 dA1 vA1 bc1 dc1 vc1 _ HX5.out.2.1).mono ?_
        intro e w6 hpost
        obtain ⟨cA, cc, rfl, hrow6, hb6⟩ := nat_of hpost HF.out.1
        have HX6 := Lib.hid (HX5.out.later hb6)
        have HR6 := Lib.hid ((HR5.out.below hb6).mono hb6.size)
        have HC6 := Lib.hid hrow6
        clear hb6 hrow6 hpost HX5 HR5 c0 c1 c2
        obtain ⟨c0, c1, c2⟩ := HX6.out.1
        go_wp2_with fail
        refine (Fewest_any r bA1 dA1 vA1 bc1 dc1 vc1 _ HX6.out.2.1).mono ?_
        intro e w7 hpost
        obtain ⟨fA, fc, rfl, hrow7, hb7⟩ := nat_of hpost HCK.out
        have HX7 := Lib.hid (HX6.out.later hb7)
        have HR7 := Lib.hid ((HR6.out.below hb7).mono hb7.size)
        have HC7 := Lib.hid (HC6.out.on hb7)
        have HW7 := Lib.hid hrow7
        have hfn := HA.out.n
        obtain ⟨cl, hcl⟩ : ∃ n, n = r.clashL.length := ⟨_, rfl⟩
        obtain ⟨fl, hfl⟩ : ∃ n, n = r.fewL.length := ⟨_, rfl⟩
        have HCL := Lib.hid hcl
        have HFL := Lib.hid hfl
        rw [← hcl] at HC7 hlc ⊢
        rw [← hfl] at HW7 hlf hfn ⊢
        clear hb7 hrow7 hpost HX6 HR6 HC6 c0 c1 c2 hcl hfl
        obtain ⟨c0, c1, c2⟩ := HX7.out.1
        go_wp2_with fail
        refine (Contradicts_any r A5 rl q5 (fun k => r.round.getD k fc0) bA1 dA1 vA1 bc1 dc1 vc1 _ HX7.out.2.1 HR7.out (by omega)).mono ?_
        rintro e w8 ⟨rfl, hb8⟩
        rw [HCN.out]
        have HX8 := Lib.hid (HX7.out.later hb8)
        have HR8 := Lib.hid ((HR7.out.below hb8).mono hb8.size)
        have HC8 := Lib.hid (HC7.out.on hb8)
        have HW8 := Lib.hid (HW7.out.on hb8)
        have g1 : ((fl : Int) == 0) = false := by rw [beq_eq_false_iff_ne]; omega
        have g2 : ¬ (r.m : Int) < (fl : Int) := by omega
        clear hb8 HX7 HR7 HC7 HW7 c0 c1 c2 hfn
        obtain ⟨c0, c1, c2⟩ := HX8.out.1
        go_wp2_with fail
        refine (hasW_any A5 rl q5 (fun k => r.round.getD k fc0) _ HR8.out (by omega) HEX.out).mono ?_
        rintro e w9 ⟨rfl, hb9⟩
        have HX9 := Lib.hid (HX8.out.later hb9)
        have HC9 := Lib.hid (HC8.out.on hb9)
        have HW9 := Lib.hid (HW8.out.on hb9)
        clear hb9 HX8 HR8 HC8 HW8 c0 c1 c2 HEX HCN HRL HT g1 g2
        go_wp2_with fail
        refine (show Calls Tryz.prog 58 #[.slice cA cl cc, .bool true, .pointer (some ⟨rb, 0, none⟩)] w9 _ from by
          have h := torn_any r HO.out r.clashL (by rw [← HCL.out]; omega) cA cc true rb bA1 dA1 vA1 bc1 dc1 vc1 w9 HX9.out.1 HX9.out.2.1 (by rw [← HCL.out]; exact HC9.out)
          rw [← HCL.out] at h
          exact h).mono ?_
        rintro e w10 ⟨rfl, hb10⟩
        rw [HA.out.a]
        have HX10 := Lib.hid (HX9.out.later hb10)
        have HC10 := Lib.hid (HC9.out.on hb10)
        have HW10 := Lib.hid (HW9.out.on hb10)
        clear hb10 HX9 HC9 HW9
        go_wp2_with fail
        refine (show Calls Tryz.prog 58 #[.slice fA fl fc, .bool false, .pointer (some ⟨rb, 0, none⟩)] w10 _ from by
          have h := torn_any r HO.out r.fewL (by rw [← HFL.out]; omega) fA fc false rb bA1 dA1 vA1 bc1 dc1 vc1 w10 HX10.out.1 HX10.out.2.1 (by rw [← HFL.out]; exact HW10.out)
          rw [← HFL.out] at h
          exact h).mono ?_
        rintro e w11 ⟨rfl, hb11⟩
        rw [HA.out.b]
        have HX11 := Lib.hid (HX10.out.later hb11)
        have HC11 := Lib.hid (HC10.out.on hb11)
        have HW11 := Lib.hid (HW10.out.on hb11)
        clear hb11 HX10 HC10 HW10
        go_wp2_with fail
        go_loopw [123] (fun i wr => ∃ k : Nat, k ≤ cl ∧ i = .int .i64 k ∧ Hid (TrB W wr rb r bA1 bc1 dA1 dc1 vA1 vc1) ∧ Hid (IntRow wr wr.heap.size cA cl (numOf r.clashL)) ∧ Hid (IntRow wr wr.heap.size fA fl (numOf r.fewL))) (fun i _ => cl - (intOf i).toNat)
        case atStart => exact ⟨0, Nat.zero_le _, rfl, HX11, HC11, HW11⟩
        case round =>
          clear HX11 HC11 HW11
          obtain ⟨k, hk, rfl, HXk, HCk, HWk⟩ := hrel
          obtain ⟨wo, rfl⟩ : ∃ wo, wo = wr := ⟨_, rfl⟩
          by_cases hlt : k < cl
          · have hkn : (k : Int) < (cl : Int) := by omega
            have hk0 : (0 : Int) ≤ (k : Int) := by omega
            obtain ⟨j, hj⟩ : ∃ j, j = k + 1 := ⟨_, rfl⟩
            have ek : IntKind.i64.wrap ((k : Int) + 1) = (j : Int) := by rw [IntWalk.i64_in _ (by omega)]; omega
            obtain ⟨el, hel⟩ : ∃ el, el = r.clashL.eraseIdx k := ⟨_, rfl⟩
            have HEL := Lib.hid hel
            have hell : el.length ≤ 1000 := by
              rw [hel, List.length_eraseIdx, ← HCL.out]
              split <;> omega
            have HTK : Hid ((r.kp (outL el true)).torn = false) := Lib.hid (by rw [hel]; exact HA.out.c k (by rw [← HCL.out]; exact hlt))
            have HJ := Lib.hid hj
            clear hel hj
            go_wp2_with fail
            refine (copy_int cA cl cc (numOf r.clashL) _ HCk.out (by omega)).mono ?_
            rintro e w12 ⟨hb12, A12, q12, rfl, ho12, hq12⟩
            obtain ⟨gb, rfl⟩ : ∃ gb, A12 = some ⟨gb, 0, none⟩ := by
              obtain ⟨b, h1, _⟩ := ho12 k hlt
              exact ⟨b, h1⟩
            have hgb : wo.heap.size ≤ gb := by
              obtain ⟨b, h1, h2, _⟩ := ho12 k hlt
              injection h1 with h1
              injection h1 with h1
              omega
            have HO12 := Lib.hid ho12
            have HX12 := Lib.hid (HXk.out.later hb12)
            have HC12 := Lib.hid (HCk.out.on hb12)
            have HW12 := Lib.hid (HWk.out.on hb12)
            have HBO := Lib.hid hb12
            clear hb12 ho12
            go_wp2_with fail
            refine (show Calls Tryz.prog 60 #[.slice (some ⟨gb, 0, none⟩) cl q12, .int .i64 (k : Int), .int .i64 (j : Int)] w12 _ from by
              have h := delete_any r.clashL k j HJ.out (by rw [← HCL.out]; exact hlt) (by rw [← HCL.out]; omega) gb q12 wo.heap.size (by rw [← HCL.out]; exact hq12) w12 (by rw [← HCL.out]; exact HO12.out)
              rw [← HCL.out, ← HEL.out] at h
              exact h).mono ?_
            rintro e w13 ⟨rfl, hr13, hb13⟩
            have hbw : Below wo.heap.size wo w13 := HBO.out.trans (hb13.mono hgb)
            have HX13 := Lib.hid (HXk.out.later hbw)
            have HC13 := Lib.hid (HCk.out.on hbw)
            have HW13 := Lib.hid (HWk.out.on hbw)
            have HE13 := Lib.hid hr13
            clear hb13 hr13 hbw HO12 HX12 HC12 HW12 HBO HXk HCk HWk ek
            go_wp2_with fail
            refine (torn_any r HO.out el hell (some ⟨gb, 0, none⟩) q12 true rb bA1 dA1 vA1 bc1 dc1 vc1 w13 HX13.out.1 HX13.out.2.1 HE13.out).mono ?_
            rintro e w14 ⟨rfl, hb14⟩
            rw [HTK.out]
            have HX14 := Lib.hid (HX13.out.later hb14)
            have HC14 := Lib.hid (HC13.out.on hb14)
            have HW14 := Lib.hid (HW13.out.on hb14)
            have ek : IntKind.i64.wrap ((k : Int) + 1) = (k : Int) + 1 := IntWalk.i64_in _ (by omega)
            clear hb14 HX13 HC13 HW13 HE13
            go_wp2_with fail
            go_roundw
            case rel => exact ⟨k + 1, by omega, by go_num, HX14, HC14, HW14⟩
            case measure => simp [intOf]; omega
          · obtain rfl : k = cl := by omega
            have hge : ¬ (k : Int) < (k : Int) := by omega
            go_wp2_with fail
            go_loopw [137] (fun i wr => ∃ q : Nat, q ≤ fl ∧ i = .int .i64 q ∧ Hid (TrB W wr rb r bA1 bc1 dA1 dc1 vA1 vc1) ∧ Hid (IntRow wr wr.heap.size fA fl (numOf r.fewL))) (fun i _ => fl - (intOf i).toNat)
            case atStart => exact ⟨0, Nat.zero_le _, rfl, HXk, HWk⟩
            case round =>
              clear HXk HWk HCk
              obtain ⟨q, hq, rfl, HXq, HWq⟩ := hrel
              obtain ⟨wp, rfl⟩ : ∃ wp, wp = wr := ⟨_, rfl⟩
              by_cases hlt : q < fl
              · have hkn : (q : Int) < (fl : Int) := by omega
                have hk0 : (0 : Int) ≤ (q : Int) := by omega
                obtain ⟨j, hj⟩ : ∃ j, j = q + 1 := ⟨_, rfl⟩
                have ek : IntKind.i64.wrap ((q : Int) + 1) = (j : Int) := by rw [IntWalk.i64_in _ (by omega)]; omega
                obtain ⟨el, hel⟩ : ∃ el, el = r.fewL.eraseIdx q := ⟨_, rfl⟩
                have HEL := Lib.hid hel
                have hell : el.length ≤ 1000 := by
                  rw [hel, List.length_eraseIdx, ← HFL.out]
                  split <;> omega
                have HTK : Hid ((r.kp (outL el false)).torn = true) := Lib.hid (by rw [hel]; exact HA.out.d q (by rw [← HFL.out]; exact hlt))
                have HJ := Lib.hid hj
                clear hel hj
                go_wp2_with fail
                refine (copy_int fA fl fc (numOf r.fewL) _ HWq.out (by omega)).mono ?_
                rintro e w12 ⟨hb12, A12, q12, rfl, ho12, hq12⟩
                obtain ⟨gb, rfl⟩ : ∃ gb, A12 = some ⟨gb, 0, none⟩ := by
                  obtain ⟨b, h1, _⟩ := ho12 q hlt
                  exact ⟨b, h1⟩
                have hgb : wp.heap.size ≤ gb := by
                  obtain ⟨b, h1, h2, _⟩ := ho12 q hlt
                  injection h1 with h1
                  injection h1 with h1
                  omega
                have HO12 := Lib.hid ho12
                have HBO := Lib.hid hb12
                clear hb12 ho12
                go_wp2_with fail
                refine (show Calls Tryz.prog 60 #[.slice (some ⟨gb, 0, none⟩) fl q12, .int .i64 (q : Int), .int .i64 (j : Int)] w12 _ from by
                  have h := delete_any r.fewL q j HJ.out (by rw [← HFL.out]; exact hlt) (by rw [← HFL.out]; omega) gb q12 wp.heap.size (by rw [← HFL.out]; exact hq12) w12 (by rw [← HFL.out]; exact HO12.out)
                  rw [← HFL.out, ← HEL.out] at h
                  exact h).mono ?_
                rintro e w13 ⟨rfl, hr13, hb13⟩
                have hbw : Below wp.heap.size wp w13 := HBO.out.trans (hb13.mono hgb)
                have HX13 := Lib.hid (HXq.out.later hbw)
                have HW13 := Lib.hid (HWq.out.on hbw)
                have HE13 := Lib.hid hr13
                clear hb13 hr13 hbw HO12 HBO HXq HWq ek
                go_wp2_with fail
                refine (torn_any r HO.out el hell (some ⟨gb, 0, none⟩) q12 false rb bA1 dA1 vA1 bc1 dc1 vc1 w13 HX13.out.1 HX13.out.2.1 HE13.out).mono ?_
                rintro e w14 ⟨rfl, hb14⟩
                rw [HTK.out]
                have HX14 := Lib.hid (HX13.out.later hb14)
                have HW14 := Lib.hid (HW13.out.on hb14)
                have ek : IntKind.i64.wrap ((q : Int) + 1) = (q : Int) + 1 := IntWalk.i64_in _ (by omega)
                clear hb14 HX13 HW13 HE13
                go_wp2_with fail
                go_roundw
                case rel => exact ⟨q + 1, by omega, by go_num, HX14, HW14⟩
                case measure => simp [intOf]; omega
              · obtain rfl : q = fl := by omega
                have hge : ¬ (q : Int) < (q : Int) := by omega
                go_wp2_with fail
                refine (awake_any _).mono ?_
                rintro e w15 ⟨rfl, hb15⟩
                have HB15 := Lib.hid (HXq.out.later hb15).2.2
                clear hb15 HXq HWq
                go_wp2_with fail
                go_ret
                exact ⟨rfl, HB15.out⟩
      · exact absurd h1 HF.out.2.1
      · exact absurd HCK.out h0
end Go.Proofs.YtnnikeolgknfoaaGreat

set_option linter.unusedSimpArgs false
set_option linter.unusedVariables false
namespace Go.Proofs.YtnnikeolgknfoaaGreat
open Go.ChangeShapes Go.WideShapes Go.ChangeAt Go.RowKit Go.Deep Go.Joins

theorem own_knob : ownKnob Tryz.prog.godebug = none := by kernel_rfl
theorem laid_out : laidOutB Tryz.prog = true := by kernel_rfl
end Go.Proofs.YtnnikeolgknfoaaGreat

set_option linter.unusedSimpArgs false
set_option linter.unusedVariables false
namespace Go.Proofs.YtnnikeolgknfoaaGreat
open Go.ChangeShapes Go.WideShapes Go.ChangeAt Go.RowKit Go.Deep Go.Joins

section
variable {H : Type} {enc : TypeId × Value → H} {w : World} {base : Nat} {spare : Nat → Bool} {held : Bool}

set_option maxRecDepth 100000 in
theorem open_bytes {fuel : Nat} {v : Value} {x : DataW H × List MemPlace} (h : DataW.trod enc Tryz.prog w base spare held fuel 92 [v] = some x) : ∃ A n c, v = .slice A n c ∧ ByIn w w.heap.size A n ∧ n ≤ maxLen := by
  rcases open_slice (e := 5) Tryz.underlying92 h with ⟨h0, _⟩ | ⟨a, len, cap, m, n, D, Pl, hcs, hb, hl, hm, hmm, hx, hi⟩
  · injection h0 with h0
    exact ⟨none, 0, 0, h0, fun k hk => absurd hk (by omega), Nat.zero_le _⟩
  · injection hcs with hcs
    have each : ∀ i, i < len → ∃ z, w.cell? (a.add i) = some (.int .u8 z) ∧ 0 ≤ z ∧ z ≤ 255 := fun k hk => by
      have him : k < m := by rw [hmm]; split <;> omega
      obtain ⟨cs', hc, ht'⟩ := hi k him
      rw [show Tryz.prog.cellsOf 5 = 1 by kernel_rfl, Nat.mul_one] at hc
      obtain ⟨_, hcl, hat⟩ := World.cells?_some hc
      obtain ⟨z, hz, hw⟩ := DataW.trod_int Tryz.underlying5 ht'
      have hcell := hat 0 (by omega)
      rw [hz] at hcell
      exact ⟨z, by simpa [Addr.add] using hcell, bounds_u8 hw.2⟩
    refine ⟨some a, len, cap, hcs, fun k hk => ?_, by omega⟩
    obtain ⟨z, hc0, hz⟩ := each k hk
    have hsp : a.spot = none := by
      obtain ⟨z0, h10, _⟩ := each 0 (by omega)
      simpa [Addr.add] using World.cell?_spot h10
    obtain ⟨b, o, sp⟩ := a
    simp only at hsp
    subst hsp
    have e : ∀ j, (⟨b, o, none⟩ : Addr).add j = ⟨b, o + j, none⟩ := fun j => Addr.add_lit _ _ _
    exact ⟨b, o, z, rfl, by have := World.block_lt_of_cell? w _ hc0; rw [e] at this; exact this, (congrArg w.cell? (e k)).symm.trans hc0, hz⟩
end
end Go.Proofs.YtnnikeolgknfoaaGreat

set_option linter.unusedSimpArgs false
set_option linter.unusedVariables false
namespace Go.Proofs.YtnnikeolgknfoaaGreat
open Go.ChangeShapes Go.WideShapes Go.ChangeAt Go.RowKit

set_option maxRecDepth 100000 in
set_option maxHeartbeats 1000000 in
theorem torn_lifted (os : Os) (started : os.Started) (H : Type) (enc : TypeId × Value → H) :
    ReturnsInHanded {} Tryz.checked os 9 .any (Rows.binTornSpec.pre6 enc Tryz.prog Tryz.f9 Rows.binTornRow.domain false) (Rows.binTornSpec.post enc Tryz.prog Tryz.f9 false true false false) := by
  refine returnsInHanded_of_change (C := Tryz.checked) own_knob started (by kernel_rfl) Tryz.func9
    (ChangeSpec.witness6 (enc := enc) (C := Tryz.checked) false ⟨#[], #[.slice none 0 0, .slice none 0 0], []⟩ 8 (by kernel_rfl) (by kernel_rfl) (by kernel_rfl) (by kernel_rfl)) ?_
  intro W base args ds gs before hval0 hW hcnd _
  have hval : ∀ (j : Nat) t v, Tryz.f9.params[j]? = some t → args[j]? = some v → Value.okWide Tryz.prog W .any base t v := hval0
  have hW' := hW
  obtain ⟨p, q, hA0, hV, rfl, hfz, hnd⟩ := hW
  have hA : DataW.TrodAll enc Tryz.prog W 0 (fun _ => true) true Tryz.f9.params.toList args.toList ds p := hA0
  rw [Tryz.params9] at hA hval
  obtain ⟨v0, v1, d0, d1, p0, p1, rfl, rfl, rfl, h0, h1⟩ := trodAll_two hA
  obtain ⟨rfl, rfl⟩ := trodVars_none hV
  obtain ⟨a0, n0, c0, rfl⟩ := okWide_slice Tryz.underlying92 (hval 0 92 v0 rfl rfl)
  have h0k := h0
  obtain ⟨f0, g0⟩ := h0
  obtain ⟨A, n, c, hv, hby0, hmx0⟩ := open_bytes (v := .slice a0 n0 c0) g0
  injection hv with hv1 hv2 hv3
  subst hv1 hv2 hv3
  obtain ⟨a1, n1, c1, rfl⟩ := okWide_slice Tryz.underlying92 (hval 1 92 v1 rfl rfl)
  have h1k := h1
  obtain ⟨f1, g1⟩ := h1
  obtain ⟨A, n, c, hv, hby1, hmx1⟩ := open_bytes (v := .slice a1 n1 c1) g1
  injection hv with hv1 hv2 hv3
  subst hv1 hv2 hv3
  clear hA0 hval0
  simp only [List.append_nil] at hW'
  have hlt0 : ∀ x ∈ p0, x.block < W.heap.size := fun x hx => hW'.lt x (by simp [hx])
  have hlt1 : ∀ x ∈ p1, x.block < W.heap.size := fun x hx => hW'.lt x (by simp [hx])
  refine (torn_law a0 n0 c0 a1 n1 c1 W hby0 (by unfold maxLen at hmx0; omega) hby1 (by unfold maxLen at hmx1; omega)).mono fun e W' ⟨he, bel⟩ => ?_
  subst he
  exact ⟨_, rfl, _, _, _, [], _, [], hW', trodAll_mk1 (shut_bool Tryz.underlying4 true),
    trodAll_mk2 (Below.trod laid_out (by kernel_rfl) (of_decide_eq_true (by kernel_rfl)) h0k bel hlt0) (Below.trod laid_out (by kernel_rfl) (of_decide_eq_true (by kernel_rfl)) h1k bel hlt1), rfl, bel.frame _, fun h => by cases h⟩

theorem bin_torn_holds : Rows.BinTornSaid :=
  OpenClaim.holds_of_wide 9 Tryz.f9 rfl rfl rfl rfl rfl rfl rfl ⟨rfl, rfl, rfl, rfl, rfl⟩ rfl rfl rfl rfl rfl (by kernel_rfl) Tryz.func9 (by kernel_rfl)
    (of_decide_eq_true (by kernel_rfl)) (by unfold Func.isWrapper; first | (rw [if_pos (by decide +kernel)]; kernel_rfl) | (rw [if_neg (by decide +kernel)]; exact ⟨rfl, rfl⟩))
    (fun os started H enc _ => torn_lifted os started H enc)
#print axioms bin_torn_holds
end Go.Proofs.YtnnikeolgknfoaaGreat
