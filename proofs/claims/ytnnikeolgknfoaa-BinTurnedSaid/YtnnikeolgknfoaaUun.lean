/- BinTurned: the row is mirrored (its loops over the bins and the weighings). -/
import Derived.Test.YtnnikeolgknfoaaGc
import Derived.Test.YtnnikeolgknfoaaJa
import Derived.Test.YtnnikeolgknfoaaD3
import Derived.Test.YtnnikeolgknfoaaU1
import Derived.Test.YtnnikeolgknfoaaNq
set_option linter.unusedSimpArgs false
set_option linter.unusedVariables false
namespace Go.Proofs.Ytnnikeolgknfoaa
open Go.RowKit Go.Shelf

/-- other weighings -/
def Rw.spo (r : Rw) (V : Nat → Wg) : Rw := { r with V := V }
def putP (V : Nat → Wg) (j : Nat) (p : Int) : Nat → Wg := fun i => if i = j then ⟨(V j).f, (V j).t, p, (V j).e⟩ else V i
theorem OwnWg.putp {w : World} {lo n : Nat} {A : Option Addr} {V : Nat → Wg} (h : OwnWg w lo A n V) {g j : Nat} (hA : A = some ⟨g, 0, none⟩) (hj : j < n) (p : Int) : OwnWg (w.setCell ⟨g, j * 4 + 2, none⟩ (.int .i64 p)) lo A n (putP V j p) := fun k hk => by
  obtain ⟨b, hA', hl, c0, c1, c2, c3, hf⟩ := h k hk
  rw [hA] at hA'
  injection hA' with hA'
  injection hA' with hA' _
  subst hA'
  have hfz : ∀ i, (w.setCell ⟨g, j * 4 + 2, none⟩ (.int .i64 p)).frozen? ⟨g, i, none⟩ = false := fun i => Fs _ (hf i)
  unfold putP
  have off : ∀ {i : Nat} {v : Value}, i ≠ j * 4 + 2 → w.cell? ⟨g, i, none⟩ = some v → (w.setCell ⟨g, j * 4 + 2, none⟩ (.int .i64 p)).cell? ⟨g, i, none⟩ = some v := fun hne hc => by
    rw [World.cell?_setCell_other _ _ _ _ (by intro e; injection e with _ e _; omega)]
    exact hc
  by_cases e : k = j
  · rw [if_pos e]
    subst e
    exact ⟨g, hA, hl, off (by omega) c0, off (by omega) c1, by simp [go_sem, c2], off (by omega) c3, hfz⟩
  · rw [if_neg e]
    exact ⟨g, hA, hl, off (by omega) c0, off (by omega) c1, off (by omega) c2, off (by omega) c3, hfz⟩
theorem Rw.spo_ok {r : Rw} (hr : r.ok) {V : Nat → Wg} (h : (r.spo V).ok) {j : Nat} (hj : j < r.m) {p : Int} (hp : 0 ≤ p ∧ p ≤ 3000) : (r.spo (putP V j p)).ok :=
  ⟨hr.n1, hr.n6, hr.d7, hr.m10, hr.b, fun k hk => by
    show (if k = j then (⟨(V j).f, (V j).t, p, (V j).e⟩ : Wg) else V k).ok r.n
    have hv := h.v j hj
    by_cases e : k = j
    · rw [if_pos e]
      exact ⟨hp, hv.e, hv.f, hv.ft, hv.t⟩
    · rw [if_neg e]
      exact h.v k hk, hr.k⟩
/-- the row under way -/
structure SpAt (W w : World) (B cb : Nat) (lA : Option Addr) (ln lc : Nat) (r : Rw) (bA : Option Addr) (bc : Nat) (dA : Option Addr) (dc : Nat) (vA : Option Addr) (vc : Nat) (V : Nat → Wg) : Prop where
  o : V3 w W.heap.size (.slice bA r.n bc) (.slice dA r.d dc) (.slice vA r.m vc)
  q : V3 w (W.heap.size + 1) (.slice none 0 0) (.slice none 0 0) (.slice none 0 0)
  b : OwnBn w (W.heap.size + 2) bA r.n r.B
  d : OwnInt w (W.heap.size + 2) dA r.d r.D
  v : OwnWg w (W.heap.size + 2) vA r.m V
  nb : ∀ a g, bA = some a → vA = some g → a.block ≠ g.block
  nd : ∀ a g, dA = some a → vA = some g → a.block ≠ g.block
  l : ∀ a, bA = some a ∨ dA = some a ∨ vA = some a → W.heap.size + 2 ≤ a.block
  cp : r.n ≤ bc ∧ r.d ≤ dc ∧ r.m ≤ vc
  ok : (r.spo V).ok
  c : Chute w B cb lA ln lc
  g : W.grownBy w (some cb)
  z : W.heap.size + 2 ≤ w.heap.size
  s : cb < W.heap.size ∧ B ≤ W.heap.size
theorem SpAt.pull {W w w' : World} {B cb : Nat} {lA : Option Addr} {ln lc : Nat} {r : Rw} {bA : Option Addr} {bc : Nat} {dA : Option Addr} {dc : Nat} {vA : Option Addr} {vc : Nat} {V : Nat → Wg} (h : SpAt W w B cb lA ln lc r bA bc dA dc vA vc V) (hg : w.grownBy w' (some cb)) (hc : Chute w' B cb lA ln lc) : SpAt W w' B cb lA ln lc r bA bc dA dc vA vc V := by
  have hs := h.s
  have hz := h.z
  have hsz := hg.size
  have hk : ∀ i, W.heap.size ≤ i → i < w.heap.size → w'.heap[i]? = w.heap[i]? := fun i h1 h2 => hg.block i h2 (fun e => by injection e with e; omega)
  exact ⟨h.o.same (hk _ (by omega) (by omega)), h.q.same (hk _ (by omega) (by omega)), h.b.keep (fun i h1 h2 => hk i (by omega) h2), h.d.keep (fun i h1 h2 => hk i (by omega) h2), h.v.keep (fun i h1 h2 => hk i (by omega) h2), h.nb, h.nd, h.l, h.cp, h.ok, hc, gb_trans h.g hg, by omega, hs⟩
theorem SpAt.later {W w w' : World} {B cb : Nat} {lA : Option Addr} {ln lc : Nat} {r : Rw} {bA : Option Addr} {bc : Nat} {dA : Option Addr} {dc : Nat} {vA : Option Addr} {vc : Nat} {V : Nat → Wg} (h : SpAt W w B cb lA ln lc r bA bc dA dc vA vc V) (hb : Below w.heap.size w w') : SpAt W w' B cb lA ln lc r bA bc dA dc vA vc V :=
  h.pull (gb_of_below cb hb) (h.c.later hb)
theorem SpAt.put {W w : World} {B cb : Nat} {lA : Option Addr} {ln lc : Nat} {r : Rw} {bA : Option Addr} {bc : Nat} {dA : Option Addr} {dc : Nat} {vA : Option Addr} {vc : Nat} {V : Nat → Wg} (hr : r.ok) (h : SpAt W w B cb lA ln lc r bA bc dA dc vA vc V) {g j : Nat} (hA : vA = some ⟨g, 0, none⟩) (hj : j < r.m) {p : Int} (hp : 0 ≤ p ∧ p ≤ 3000) : SpAt W (w.setCell ⟨g, j * 4 + 2, none⟩ (.int .i64 p)) B cb lA ln lc r bA bc dA dc vA vc (putP V j p) := by
  have hl := h.l _ (.inr (.inr hA))
  dsimp only at hl
  have hs := h.s
  have hz := h.z
  have hk : ∀ i, i ≠ g → (w.setCell ⟨g, j * 4 + 2, none⟩ (.int .i64 p)).heap[i]? = w.heap[i]? := fun i hi => set_heap _ (by exact hi)
  exact ⟨h.o.same (hk _ (by omega)), h.q.same (hk _ (by omega)), h.b.keepA (fun a ha => hk _ (h.nb a _ ha hA)), h.d.keepA (fun a ha => hk _ (h.nd a _ ha hA)), h.v.putp hA hj p, h.nb, h.nd, h.l, h.cp, Rw.spo_ok hr h.ok hj hp, h.c.keep (fun i hi => hk i (by omega)), gb_cell h.g (by dsimp only; omega) _, by simp [World.setCell]; exact hz, hs⟩
def SpoilPost (r : Rw) (B cb : Nat) (lA : Option Addr) (ln lc : Nat) (W : World) (e : Ending) (W' : World) : Prop :=
  ∃ (r' : Rw) (bA dA vA : Option Addr) (bc dc vc : Nat), e = .returned (rwV bA r'.n bc dA r'.d dc vA r'.m vc) ∧ r'.n = r.n ∧ r'.d = r.d ∧ r'.m = r.m ∧ r'.ok ∧ RwRow W' W'.heap.size r' bA bc dA dc vA vc ∧ (∀ a, bA = some a ∨ dA = some a ∨ vA = some a → W.heap.size + 2 ≤ a.block) ∧ W.grownBy W' (some cb) ∧ Chute W' B cb lA ln lc

set_option maxRecDepth 100000 in
set_option maxHeartbeats 8000000 in
theorem spoiled_any (most : Int) (hmo : 0 ≤ most ∧ most ≤ 100) (r : Rw) (hr : r.ok) (hd1 : 1 ≤ r.d) (bA dA vA : Option Addr) (bc dc vc : Nat) (B cb : Nat) (lA : Option Addr) (ln lc : Nat) (hln : ln ≤ 9223372036854775807) (W : World) (hB : B ≤ W.heap.size) (hcb : cb < W.heap.size) (hc : Chute W B cb lA ln lc) (hrow : RwRow W W.heap.size r bA bc dA dc vA vc) :
    Calls Try.prog 30 #[.pointer (some ⟨cb, 0, none⟩), rwV bA r.n bc dA r.d dc vA r.m vc, .int .i64 most] W (SpoilPost r B cb lA ln lc W) := by
  have HC := Lib.hid hc
  have H0 := Lib.hid hrow
  have HOK := Lib.hid hr
  have hn1 := hr.n1
  have hm10 := hr.m10
  have em : IntKind.i64.wrap (most + 1) = most + 1 := IntWalk.i64_in _ (by omega)
  clear hc hrow hr
  go_enter Try.func30, Try.ntmps30
  go_upto_region 1 with fail
  refine wp_world (fun W1 => V3 W1 W.heap.size (.slice bA r.n bc) (.slice dA r.d dc) (.slice vA r.m vc) ∧ V3 W1 (W.heap.size + 1) (.slice none 0 0) (.slice none 0 0) (.slice none 0 0) ∧ Below W.heap.size W W1 ∧ W.heap.size + 2 ≤ W1.heap.size) ⟨⟨(by (repeat' refine And.intro ?_ ?_) <;> (repeat (first | with_reducible assumption | (simp; done) | (with_reducible first | refine Kd ?_ | refine Kn ?_ | refine Kb (by assumption) ?_) | ((with_reducible first | refine Kw ?_ ?_ | refine Fw ?_) <;> first | with_reducible rfl | (simp; done)) | (with_reducible first | refine Ka _ ?_ | refine Ks _ (by first | exact Nat.le_refl _ | omega | (simp; done) | (simp; omega)) ?_ | refine Fd ?_ | refine Fn ?_ | refine Fb (by assumption) (by first | exact Nat.le_refl _ | omega | (simp; done) | (simp; omega)) ?_ | refine Fa _ (by first | exact Nat.le_refl _ | omega | (simp; done) | (simp; omega)) ?_ | refine Fs _ ?_)))), (by (repeat' refine And.intro ?_ ?_) <;> (repeat (first | with_reducible assumption | (simp; done) | (with_reducible first | refine Kd ?_ | refine Kn ?_ | refine Kb (by assumption) ?_) | ((with_reducible first | refine Kw ?_ ?_ | refine Fw ?_) <;> first | with_reducible rfl | (simp; done)) | (with_reducible first | refine Ka _ ?_ | refine Ks _ (by first | exact Nat.le_refl _ | omega | (simp; done) | (simp; omega)) ?_ | refine Fd ?_ | refine Fn ?_ | refine Fb (by assumption) (by first | exact Nat.le_refl _ | omega | (simp; done) | (simp; omega)) ?_ | refine Fa _ (by first | exact Nat.le_refl _ | omega | (simp; done) | (simp; omega)) ?_ | refine Fs _ ?_)))), (by (repeat' refine And.intro ?_ ?_) <;> (repeat (first | with_reducible assumption | (simp; done) | (with_reducible first | refine Kd ?_ | refine Kn ?_ | refine Kb (by assumption) ?_) | ((with_reducible first | refine Kw ?_ ?_ | refine Fw ?_) <;> first | with_reducible rfl | (simp; done)) | (with_reducible first | refine Ka _ ?_ | refine Ks _ (by first | exact Nat.le_refl _ | omega | (simp; done) | (simp; omega)) ?_ | refine Fd ?_ | refine Fn ?_ | refine Fb (by assumption) (by first | exact Nat.le_refl _ | omega | (simp; done) | (simp; omega)) ?_ | refine Fa _ (by first | exact Nat.le_refl _ | omega | (simp; done) | (simp; omega)) ?_ | refine Fs _ ?_)))), (by (repeat' refine And.intro ?_ ?_) <;> (repeat (first | with_reducible assumption | (simp; done) | (with_reducible first | refine Kd ?_ | refine Kn ?_ | refine Kb (by assumption) ?_) | ((with_reducible first | refine Kw ?_ ?_ | refine Fw ?_) <;> first | with_reducible rfl | (simp; done)) | (with_reducible first | refine Ka _ ?_ | refine Ks _ (by first | exact Nat.le_refl _ | omega | (simp; done) | (simp; omega)) ?_ | refine Fd ?_ | refine Fn ?_ | refine Fb (by assumption) (by first | exact Nat.le_refl _ | omega | (simp; done) | (simp; omega)) ?_ | refine Fa _ (by first | exact Nat.le_refl _ | omega | (simp; done) | (simp; omega)) ?_ | refine Fs _ ?_)))), (by (repeat' refine And.intro ?_ ?_) <;> (repeat (first | with_reducible assumption | (simp; done) | (with_reducible first | refine Kd ?_ | refine Kn ?_ | refine Kb (by assumption) ?_) | ((with_reducible first | refine Kw ?_ ?_ | refine Fw ?_) <;> first | with_reducible rfl | (simp; done)) | (with_reducible first | refine Ka _ ?_ | refine Ks _ (by first | exact Nat.le_refl _ | omega | (simp; done) | (simp; omega)) ?_ | refine Fd ?_ | refine Fn ?_ | refine Fb (by assumption) (by first | exact Nat.le_refl _ | omega | (simp; done) | (simp; omega)) ?_ | refine Fa _ (by first | exact Nat.le_refl _ | omega | (simp; done) | (simp; omega)) ?_ | refine Fs _ ?_)))), (by (repeat' refine And.intro ?_ ?_) <;> (repeat (first | with_reducible assumption | (simp; done) | (with_reducible first | refine Kd ?_ | refine Kn ?_ | refine Kb (by assumption) ?_) | ((with_reducible first | refine Kw ?_ ?_ | refine Fw ?_) <;> first | with_reducible rfl | (simp; done)) | (with_reducible first | refine Ka _ ?_ | refine Ks _ (by first | exact Nat.le_refl _ | omega | (simp; done) | (simp; omega)) ?_ | refine Fd ?_ | refine Fn ?_ | refine Fb (by assumption) (by first | exact Nat.le_refl _ | omega | (simp; done) | (simp; omega)) ?_ | refine Fa _ (by first | exact Nat.le_refl _ | omega | (simp; done) | (simp; omega)) ?_ | refine Fs _ ?_))))⟩, ⟨(by (repeat' refine And.intro ?_ ?_) <;> (repeat (first | with_reducible assumption | (simp; done) | (with_reducible first | refine Kd ?_ | refine Kn ?_ | refine Kb (by assumption) ?_) | ((with_reducible first | refine Kw ?_ ?_ | refine Fw ?_) <;> first | with_reducible rfl | (simp; done)) | (with_reducible first | refine Ka _ ?_ | refine Ks _ (by first | exact Nat.le_refl _ | omega | (simp; done) | (simp; omega)) ?_ | refine Fd ?_ | refine Fn ?_ | refine Fb (by assumption) (by first | exact Nat.le_refl _ | omega | (simp; done) | (simp; omega)) ?_ | refine Fa _ (by first | exact Nat.le_refl _ | omega | (simp; done) | (simp; omega)) ?_ | refine Fs _ ?_)))), (by (repeat' refine And.intro ?_ ?_) <;> (repeat (first | with_reducible assumption | (simp; done) | (with_reducible first | refine Kd ?_ | refine Kn ?_ | refine Kb (by assumption) ?_) | ((with_reducible first | refine Kw ?_ ?_ | refine Fw ?_) <;> first | with_reducible rfl | (simp; done)) | (with_reducible first | refine Ka _ ?_ | refine Ks _ (by first | exact Nat.le_refl _ | omega | (simp; done) | (simp; omega)) ?_ | refine Fd ?_ | refine Fn ?_ | refine Fb (by assumption) (by first | exact Nat.le_refl _ | omega | (simp; done) | (simp; omega)) ?_ | refine Fa _ (by first | exact Nat.le_refl _ | omega | (simp; done) | (simp; omega)) ?_ | refine Fs _ ?_)))), (by (repeat' refine And.intro ?_ ?_) <;> (repeat (first | with_reducible assumption | (simp; done) | (with_reducible first | refine Kd ?_ | refine Kn ?_ | refine Kb (by assumption) ?_) | ((with_reducible first | refine Kw ?_ ?_ | refine Fw ?_) <;> first | with_reducible rfl | (simp; done)) | (with_reducible first | refine Ka _ ?_ | refine Ks _ (by first | exact Nat.le_refl _ | omega | (simp; done) | (simp; omega)) ?_ | refine Fd ?_ | refine Fn ?_ | refine Fb (by assumption) (by first | exact Nat.le_refl _ | omega | (simp; done) | (simp; omega)) ?_ | refine Fa _ (by first | exact Nat.le_refl _ | omega | (simp; done) | (simp; omega)) ?_ | refine Fs _ ?_)))), (by (repeat' refine And.intro ?_ ?_) <;> (repeat (first | with_reducible assumption | (simp; done) | (with_reducible first | refine Kd ?_ | refine Kn ?_ | refine Kb (by assumption) ?_) | ((with_reducible first | refine Kw ?_ ?_ | refine Fw ?_) <;> first | with_reducible rfl | (simp; done)) | (with_reducible first | refine Ka _ ?_ | refine Ks _ (by first | exact Nat.le_refl _ | omega | (simp; done) | (simp; omega)) ?_ | refine Fd ?_ | refine Fn ?_ | refine Fb (by assumption) (by first | exact Nat.le_refl _ | omega | (simp; done) | (simp; omega)) ?_ | refine Fa _ (by first | exact Nat.le_refl _ | omega | (simp; done) | (simp; omega)) ?_ | refine Fs _ ?_)))), (by (repeat' refine And.intro ?_ ?_) <;> (repeat (first | with_reducible assumption | (simp; done) | (with_reducible first | refine Kd ?_ | refine Kn ?_ | refine Kb (by assumption) ?_) | ((with_reducible first | refine Kw ?_ ?_ | refine Fw ?_) <;> first | with_reducible rfl | (simp; done)) | (with_reducible first | refine Ka _ ?_ | refine Ks _ (by first | exact Nat.le_refl _ | omega | (simp; done) | (simp; omega)) ?_ | refine Fd ?_ | refine Fn ?_ | refine Fb (by assumption) (by first | exact Nat.le_refl _ | omega | (simp; done) | (simp; omega)) ?_ | refine Fa _ (by first | exact Nat.le_refl _ | omega | (simp; done) | (simp; omega)) ?_ | refine Fs _ ?_)))), (by (repeat' refine And.intro ?_ ?_) <;> (repeat (first | with_reducible assumption | (simp; done) | (with_reducible first | refine Kd ?_ | refine Kn ?_ | refine Kb (by assumption) ?_) | ((with_reducible first | refine Kw ?_ ?_ | refine Fw ?_) <;> first | with_reducible rfl | (simp; done)) | (with_reducible first | refine Ka _ ?_ | refine Ks _ (by first | exact Nat.le_refl _ | omega | (simp; done) | (simp; omega)) ?_ | refine Fd ?_ | refine Fn ?_ | refine Fb (by assumption) (by first | exact Nat.le_refl _ | omega | (simp; done) | (simp; omega)) ?_ | refine Fa _ (by first | exact Nat.le_refl _ | omega | (simp; done) | (simp; omega)) ?_ | refine Fs _ ?_))))⟩, (by repeat (first | (with_reducible first | exact Below.refl _ _ | assumption | refine Below.drew ?_) | ((with_reducible first | refine Lc ?_ ?_ _ | refine Ls ?_ ?_ _ | refine Lv (by assumption) ?_ ?_); · first | exact Nat.le_refl _ | omega | (dsimp only; omega) | (simp only [World.size_alloc, World.size_drew, World.heap_drewN]; omega) | (simp; omega)))), by simp⟩ ?_
  rintro w1 ⟨hv1, hq1, hb1, hs1⟩
  have HV1 := Lib.hid hv1
  have HQ1 := Lib.hid hq1
  have HB1 := Lib.hid hb1
  have HC1 := Lib.hid (HC.out.later hb1)
  have HR1 := Lib.hid (H0.out.on hb1)
  have hs1' := hb1.size
  obtain ⟨c0, c1, c2, f0, f1, f2⟩ := hv1
  clear hb1 hq1 HC H0
  go_wp2_with fail
  refine (own2_any r hn1 hd1 bA dA vA bc dc vc _ HR1.out).mono ?_
  intro e w2 hpost
  obtain ⟨c, rfl, hcc, hcs, hce, hb2⟩ := CpAt.of hn1 hd1 hpost
  have hs2 := hb2.size
  have HC2 := Lib.hid hcc
  have HV2 := Lib.hid (HV1.out.same (hb2.block _ HV1.out.lt))
  have HQ2 := Lib.hid (HQ1.out.same (hb2.block _ HQ1.out.lt))
  have HB2 := Lib.hid (HB1.out.trans (hb2.mono hs1'))
  have HCh2 := Lib.hid (HC1.out.later hb2)
  clear hpost hcc hb2 c0 c1 c2 f0 f1 f2 HV1 HQ1 HB1 HC1 HR1
  obtain ⟨c0, c1, c2, f0, f1, f2⟩ := HV2.out
  go_upto_region 2 with fail
  refine wp_world (fun w' => SpAt W w' B cb lA ln lc r c.bA c.bc c.dA c.dc c.vA c.vc r.V) ?_ ?_
  · have hcp := HC2.out
    have hk : ∀ i, i ≠ W.heap.size → (((w2.setCell ⟨W.heap.size, 0, none⟩ (.slice c.bA r.n c.bc)).setCell ⟨W.heap.size, 1, none⟩ (.slice c.dA r.d c.dc)).setCell ⟨W.heap.size, 2, none⟩ (.slice c.vA r.m c.vc)).heap[i]? = w2.heap[i]? := fun i hi => (set_heap _ (by exact hi)).trans ((set_heap _ (by exact hi)).trans (set_heap _ (by exact hi)))
    obtain ⟨A, c', e0, ho, hvc⟩ := OwnWg.of hcp.v
    injection e0 with e1 e2 e3
    rw [← e1] at ho
    have hbe : Below W.heap.size W (((w2.setCell ⟨W.heap.size, 0, none⟩ (.slice c.bA r.n c.bc)).setCell ⟨W.heap.size, 1, none⟩ (.slice c.dA r.d c.dc)).setCell ⟨W.heap.size, 2, none⟩ (.slice c.vA r.m c.vc)) := ((HB2.out.setCell (by dsimp only; omega) _).setCell (by dsimp only; omega) _).setCell (by dsimp only; omega) _
    have hvb : ∀ g, c.vA = some g → c.m ≤ g.block ∧ g.block < c.e := fun g hg => by
      rcases hcp.v.2 with ⟨e0, _⟩ | ⟨q, cap, cur, e0, _⟩
      · injection e0 with e4 e5 e6
        rw [hg] at e4
        exact absurd e4 (by simp)
      · have := hcp.vl q (by rw [e0]; rfl)
        injection e0 with e4 e5 e6
        rw [hg] at e4
        injection e4 with e4
        rw [e4]
        exact this
    refine ⟨((HV2.out.set0 _).set1 _).set2 _, HQ2.out.same (hk _ (by omega)), (hcp.b.keep (fun i h1 h2 => hk i (by omega))).low (by omega), (hcp.d.keep (fun i h1 h2 => hk i (by omega))).low (by omega), ?_, fun a g ha hg => by have h1 := hcp.bl a ha; have h2 := hvb g hg; omega, fun a g ha hg => by have h1 := hcp.dl a ha; have h2 := hvb g hg; omega, ?_, hcp.cap, HOK.out, HCh2.out.keep (fun i hi => hk i (by omega)), gb_of_below cb hbe, by simp [World.setCell]; omega, hcb, hB⟩
    · have hsm := hcp.sm
      exact (ho.keep (fun i h1 h2 => hk i (by omega))).low (by omega)
    · have hsm := hcp.sm
      rintro a (h | h | h)
      · have := hcp.bl a h; omega
      · have := hcp.dl a h; omega
      · have := hvb a h; omega
  intro w3 hsp
  have HS3 := Lib.hid hsp
  clear hsp c0 c1 c2 f0 f1 f2 HC2 HV2 HQ2 HB2 HCh2
  go_wp2_with fail
  refine (pull_any B cb lA ln lc (most + 1) (by omega) hln _ HS3.out.c).mono ?_
  rintro e w4 ⟨kk, rfl, hk0, hk1, hg4, hc4⟩
  obtain ⟨nk, rfl⟩ := Int.eq_ofNat_of_zero_le hk0
  have hnk : nk ≤ 100 := by omega
  have HS4 := Lib.hid (HS3.out.pull hg4 hc4)
  clear hg4 hc4 HS3 hk0 hk1
  go_wp2_with fail
  go_loopw [13] (fun i wr => ∃ (k : Nat) (V : Nat → Wg), k ≤ nk ∧ i = .int .i64 k ∧ Hid (SpAt W wr B cb lA ln lc r c.bA c.bc c.dA c.dc c.vA c.vc V)) (fun i _ => nk - (intOf i).toNat)
  case atStart => exact ⟨0, r.V, Nat.zero_le _, rfl, HS4⟩
  case round =>
    clear HS4
    obtain ⟨k, V, hk, rfl, HS⟩ := hrel
    obtain ⟨wo, rfl⟩ : ∃ wo, wo = wr := ⟨_, rfl⟩
    by_cases hlt : k < nk
    · have hk0 : (0 : Int) ≤ (k : Int) := by omega
      have hkn : (k : Int) < (nk : Int) := by omega
      have ek : IntKind.i64.wrap ((k : Int) + 1) = (k : Int) + 1 := IntWalk.i64_in _ (by omega)
      have c2 := HS.out.o.c2
      by_cases hm0 : 0 < r.m
      · have hpp : (0 : Int) < ((r.m : Nat) : Int) := by omega
        obtain ⟨g, hA, hgl, -⟩ := HS.out.v 0 hm0
        have HA := Lib.hid hA
        have hcap := HS.out.cp.2.2
        have hs := HS.out.s
        rw [hA] at c2
        clear hA
        go_upto_region 5 with fail
        go_region_held3 (fun w' => w'.cell? ⟨W.heap.size, 2, none⟩ = some (.slice (some ⟨g, 0, none⟩) r.m c.vc)) ((go_split_ands; (repeat' refine And.intro ?_ ?_) <;> (repeat (first | with_reducible assumption | (simp; done) | (with_reducible first | refine Kd ?_ | refine Kn ?_ | refine Kb (by assumption) ?_) | ((with_reducible first | refine Kw ?_ ?_ | refine Fw ?_) <;> first | with_reducible rfl | (simp; done)) | (with_reducible first | refine Ka _ ?_ | refine Ks _ (by first | exact Nat.le_refl _ | omega | (simp; done) | (simp; omega)) ?_ | refine Fd ?_ | refine Fn ?_ | refine Fb (by assumption) (by first | exact Nat.le_refl _ | omega | (simp; done) | (simp; omega)) ?_ | refine Fa _ (by first | exact Nat.le_refl _ | omega | (simp; done) | (simp; omega)) ?_ | refine Fs _ ?_))))) (first | (have mk := H5; go_at_call 13; refine (pull_any B cb lA ln lc 120 (by omega) hln _ (H5.out.c.later (by repeat (first | (with_reducible first | exact Below.refl _ _ | assumption | refine Below.drew ?_) | ((with_reducible first | refine Lc ?_ ?_ _ | refine Ls ?_ ?_ _ | refine Lv (by assumption) ?_ ?_); · first | exact Nat.le_refl _ | omega | (dsimp only; omega) | (simp only [World.size_alloc, World.size_drew, World.heap_drewN]; omega) | (simp; omega)))))).mono ?_; rintro e w6 ⟨p, rfl, hp0, hp1, hg6, hc6⟩; have H6 := Lib.hid ((H5.out.later (show Below w5.heap.size w5 _ from (by repeat (first | (with_reducible first | exact Below.refl _ _ | assumption | refine Below.drew ?_) | ((with_reducible first | refine Lc ?_ ?_ _ | refine Ls ?_ ?_ _ | refine Lv (by assumption) ?_ ?_); · first | exact Nat.le_refl _ | omega | (dsimp only; omega) | (simp only [World.size_alloc, World.size_drew, World.heap_drewN]; omega) | (simp; omega)))))).pull hg6 hc6); have c6 := H6.out.o.c2; rw [HA.out] at c6; obtain ⟨g6, hA6, hl6, -, -, d6, -, f6⟩ := H6.out.v j hjm; rw [HA.out] at hA6; injection hA6 with hA6; injection hA6 with hA6; subst hA6; have ff6 := f6 (j * 4 + 2)) | (go_at_call 13; refine (pull_any B cb lA ln lc (r.m : Int) (by omega) hln _ (HS.out.c.later (by repeat (first | (with_reducible first | exact Below.refl _ _ | assumption | refine Below.drew ?_) | ((with_reducible first | refine Lc ?_ ?_ _ | refine Ls ?_ ?_ _ | refine Lv (by assumption) ?_ ?_); · first | exact Nat.le_refl _ | omega | (dsimp only; omega) | (simp only [World.size_alloc, World.size_drew, World.heap_drewN]; omega) | (simp; omega)))))).mono ?_; rintro e w5 ⟨j, rfl, hj0, hj1, hg5, hc5⟩; obtain ⟨j, rfl⟩ := Int.eq_ofNat_of_zero_le hj0; have hjm : j < r.m := (by omega); have hjn : (j : Int) < ((r.m : Nat) : Int) := (by omega); have hjz : (0 : Int) ≤ (j : Int) := (by omega); have H5 := Lib.hid ((HS.out.later (show Below wo.heap.size wo _ from (by repeat (first | (with_reducible first | exact Below.refl _ _ | assumption | refine Below.drew ?_) | ((with_reducible first | refine Lc ?_ ?_ _ | refine Ls ?_ ?_ _ | refine Lv (by assumption) ?_ ?_); · first | exact Nat.le_refl _ | omega | (dsimp only; omega) | (simp only [World.size_alloc, World.size_drew, World.heap_drewN]; omega) | (simp; omega)))))).pull hg5 hc5); have c5 := H5.out.o.c2; rw [HA.out] at c5))
        all_goals
          have H7 := Lib.hid (H6.out.put HOK.out HA.out hjm (p := p) (by omega))
          clear hg6 hc6 hg5 hc5 c6 c5 d6 f6 ff6 H6 H5 c2
          go_wp2_with fail
          go_roundw
          case rel => exact ⟨k + 1, _, by omega, by go_num, H7⟩
          case measure => simp [intOf]; omega
      · have hpp : ¬ (0 : Int) < ((r.m : Nat) : Int) := by omega
        clear hm0
        go_wp2_with fail
        go_roundw
        case rel => exact ⟨k + 1, V, by omega, by go_num, HS⟩
        case measure => simp [intOf]; omega
    · obtain rfl : k = nk := by omega
      have hge : ¬ (k : Int) < (k : Int) := by omega
      have hoo := HS.out.o
      have hqq := HS.out.q
      obtain ⟨c0, c1, c2, -, -, -⟩ := hoo
      obtain ⟨r0, r1, r2, f0, f1, f2⟩ := hqq
      go_wp2_with fail
      refine name_post ?_
      intro w' hw
      have hkk : ∀ i, i ≠ W.heap.size + 1 → w'.heap[i]? = wo.heap[i]? := fun i hi => by
        rw [hw]
        exact (set_heap _ (by exact hi)).trans ((set_heap _ (by exact hi)).trans (set_heap _ (by exact hi)))
      have hsz : wo.heap.size ≤ w'.heap.size := by
        rw [hw]
        simp [World.setCell]
      have hgb : W.grownBy w' (some cb) := by
        rw [hw]
        exact gb_cell (gb_cell (gb_cell HS.out.g (by dsimp only; omega) _) (by dsimp only; omega) _) (by dsimp only; omega) _
      have hres : w'.cell? ⟨W.heap.size + 1, 0, none⟩ = some (.slice c.bA r.n c.bc) ∧ w'.cell? ⟨W.heap.size + 1, 1, none⟩ = some (.slice c.dA r.d c.dc) ∧ w'.cell? ⟨W.heap.size + 1, 2, none⟩ = some (.slice c.vA r.m c.vc) := by
        rw [hw]
        exact ⟨by simp [go_sem, r0], by simp [go_sem, r0, r1], by simp [go_sem, r0, r1, r2]⟩
      clear hw
      obtain ⟨s0, s1, s2⟩ := hres
      have hs := HS.out.s
      have hrow : RwRow wo wo.heap.size (r.spo V) c.bA c.bc c.dA c.dc c.vA c.vc := ⟨Nat.le_refl _, HS.out.b.row, HS.out.d.row, HS.out.v.row, by show r.n ≤ 1000; have := HOK.out.n6; omega, by show r.d ≤ 1000; have := HOK.out.d7; omega, by show r.m ≤ 1000; omega, HS.out.cp.1, HS.out.cp.2.1, HS.out.cp.2.2⟩
      exact bodyPost_ret (v := rwV c.bA r.n c.bc c.dA r.d c.dc c.vA r.m c.vc) (by simp [results, Try.results30, go_sem, s0, s1, s2]) rfl ⟨r.spo V, c.bA, c.dA, c.vA, c.bc, c.dc, c.vc, rfl, rfl, rfl, rfl, HS.out.ok, hrow.keepS (fun a ha => hkk _ (by have := HS.out.l a ha; omega)) hsz (Nat.le_refl _), HS.out.l, hgb, HS.out.c.keep (fun i hi => hkk i (by omega))⟩
end Go.Proofs.Ytnnikeolgknfoaa

set_option linter.unusedSimpArgs false
set_option linter.unusedVariables false
namespace Go.Proofs.Ytnnikeolgknfoaa
open Go.RowKit Go.Shelf

theorem cell_off {w : World} {b i j : Nat} {u v : Value} (hne : i ≠ j) (h : w.cell? ⟨b, i, none⟩ = some v) : (w.setCell ⟨b, j, none⟩ u).cell? ⟨b, i, none⟩ = some v := by
  rw [World.cell?_setCell_other _ _ _ _ (by intro e; injection e with _ e _; omega)]; exact h
theorem cell_hit {w : World} {a : Addr} {u v : Value} (h : w.cell? a = some v) : (w.setCell a u).cell? a = some u := by simp [go_sem, h]
def setBn (w : World) (g o : Nat) (x : Bn) : World := ((((((w.setCell ⟨g, o, none⟩ (.int .i64 (x.lo 0))).setCell ⟨g, o + 1, none⟩ (.int .i64 (x.hi 0))).setCell ⟨g, o + 2, none⟩ (.int .i64 (x.lo 1))).setCell ⟨g, o + 3, none⟩ (.int .i64 (x.hi 1))).setCell ⟨g, o + 4, none⟩ (.int .i64 (x.lo 2))).setCell ⟨g, o + 5, none⟩ (.int .i64 (x.hi 2))).setCell ⟨g, o + 6, none⟩ (.int .i64 x.s)
theorem setBn_heap (w : World) {g o : Nat} (x : Bn) {i : Nat} (hi : i ≠ g) : (setBn w g o x).heap[i]? = w.heap[i]? := by
  unfold setBn
  repeat rw [set_heap _ (by exact hi)]
theorem setBn_below {B : Nat} {w0 w : World} {g o : Nat} {x : Bn} (h : Below B w0 w) (hg : B ≤ g) : Below B w0 (setBn w g o x) := by
  unfold setBn
  repeat refine Below.setCell ?_ hg _
  exact h
theorem setBn_off {w : World} {g o i : Nat} {x : Bn} {v : Value} (h : i < o ∨ o + 7 ≤ i) (hc : w.cell? ⟨g, i, none⟩ = some v) : (setBn w g o x).cell? ⟨g, i, none⟩ = some v := by
  unfold setBn
  repeat refine cell_off (by omega) ?_
  exact hc
theorem setBn_fro {w : World} {g o : Nat} {x : Bn} {a : Addr} (h : w.frozen? a = false) : (setBn w g o x).frozen? a = false := by
  unfold setBn
  repeat refine Fs _ ?_
  exact h
theorem OwnBn.put {w : World} {lo n : Nat} {A : Option Addr} {P : Nat → Bn} (h : OwnBn w lo A n P) {g j : Nat} (hA : A = some ⟨g, 0, none⟩) (hj : j < n) (x : Bn) : OwnBn (setBn w g (j * 7) x) lo A n (fun i => if i = j then x else P i) := fun k hk => by
  obtain ⟨b, hA', hl, c0, c1, c2, c3, c4, c5, c6, hf⟩ := h k hk
  rw [hA] at hA'
  injection hA' with hA'
  injection hA' with hA' _
  subst hA'
  dsimp only
  by_cases e : k = j
  · rw [if_pos e]
    subst e
    refine ⟨g, hA, hl, ?_, ?_, ?_, ?_, ?_, ?_, ?_, fun i => setBn_fro (hf i)⟩ <;> unfold setBn
    · exact cell_off (by omega) (cell_off (by omega) (cell_off (by omega) (cell_off (by omega) (cell_off (by omega) (cell_off (by omega) (cell_hit c0))))))
    · exact cell_off (by omega) (cell_off (by omega) (cell_off (by omega) (cell_off (by omega) (cell_off (by omega) (cell_hit (cell_off (by omega) c1))))))
    · exact cell_off (by omega) (cell_off (by omega) (cell_off (by omega) (cell_off (by omega) (cell_hit (cell_off (by omega) (cell_off (by omega) c2))))))
    · exact cell_off (by omega) (cell_off (by omega) (cell_off (by omega) (cell_hit (cell_off (by omega) (cell_off (by omega) (cell_off (by omega) c3))))))
    · exact cell_off (by omega) (cell_off (by omega) (cell_hit (cell_off (by omega) (cell_off (by omega) (cell_off (by omega) (cell_off (by omega) c4))))))
    · exact cell_off (by omega) (cell_hit (cell_off (by omega) (cell_off (by omega) (cell_off (by omega) (cell_off (by omega) (cell_off (by omega) c5))))))
    · exact cell_hit (cell_off (by omega) (cell_off (by omega) (cell_off (by omega) (cell_off (by omega) (cell_off (by omega) (cell_off (by omega) c6))))))
  · rw [if_neg e]
    have hd : k * 7 + 7 ≤ j * 7 ∨ j * 7 + 7 ≤ k * 7 := by omega
    exact ⟨g, hA, hl, setBn_off (by omega) c0, setBn_off (by omega) c1, setBn_off (by omega) c2, setBn_off (by omega) c3, setBn_off (by omega) c4, setBn_off (by omega) c5, setBn_off (by omega) c6, fun i => setBn_fro (hf i)⟩
theorem OwnWg.putft {w : World} {lo n : Nat} {A : Option Addr} {V : Nat → Wg} (h : OwnWg w lo A n V) {g j : Nat} (hA : A = some ⟨g, 0, none⟩) (hj : j < n) (f t : Int) : OwnWg ((w.setCell ⟨g, j * 4, none⟩ (.int .i64 f)).setCell ⟨g, j * 4 + 1, none⟩ (.int .i64 t)) lo A n (fun i => if i = j then ⟨f, t, (V j).p, (V j).e⟩ else V i) := fun k hk => by
  obtain ⟨b, hA', hl, c0, c1, c2, c3, hf⟩ := h k hk
  rw [hA] at hA'
  injection hA' with hA'
  injection hA' with hA' _
  subst hA'
  have hfz : ∀ i, ((w.setCell ⟨g, j * 4, none⟩ (.int .i64 f)).setCell ⟨g, j * 4 + 1, none⟩ (.int .i64 t)).frozen? ⟨g, i, none⟩ = false := fun i => Fs _ (Fs _ (hf i))
  dsimp only
  by_cases e : k = j
  · rw [if_pos e]
    subst e
    exact ⟨g, hA, hl, cell_off (by omega) (cell_hit c0), cell_hit (cell_off (by omega) c1), cell_off (by omega) (cell_off (by omega) c2), cell_off (by omega) (cell_off (by omega) c3), hfz⟩
  · rw [if_neg e]
    exact ⟨g, hA, hl, cell_off (by omega) (cell_off (by omega) c0), cell_off (by omega) (cell_off (by omega) c1), cell_off (by omega) (cell_off (by omega) c2), cell_off (by omega) (cell_off (by omega) c3), hfz⟩
/-- a row of one's own in a box, as it is changed -/
structure OAt (w : World) (lo ox : Nat) (n d m : Nat) (D : Nat → Int) (bA : Option Addr) (bc : Nat) (dA : Option Addr) (dc : Nat) (vA : Option Addr) (vc : Nat) (P : Nat → Bn) (V : Nat → Wg) : Prop where
  o : V3 w ox (.slice bA n bc) (.slice dA d dc) (.slice vA m vc)
  b : OwnBn w lo bA n P
  dd : OwnInt w lo dA d D
  v : OwnWg w lo vA m V
  nb : ∀ a g, bA = some a → vA = some g → a.block ≠ g.block
  nd : ∀ a g, dA = some a → vA = some g → a.block ≠ g.block
  bd : ∀ a g, bA = some a → dA = some g → a.block ≠ g.block
  l : ∀ a, bA = some a ∨ dA = some a ∨ vA = some a → lo ≤ a.block ∧ a.block ≠ ox
  cp : n ≤ bc ∧ d ≤ dc ∧ m ≤ vc
  ho : lo ≤ ox
theorem OAt.later {w w' : World} {lo ox n d m : Nat} {D : Nat → Int} {bA : Option Addr} {bc : Nat} {dA : Option Addr} {dc : Nat} {vA : Option Addr} {vc : Nat} {P : Nat → Bn} {V : Nat → Wg} (h : OAt w lo ox n d m D bA bc dA dc vA vc P V) (hb : Below w.heap.size w w') : OAt w' lo ox n d m D bA bc dA dc vA vc P V :=
  ⟨h.o.same (hb.block _ h.o.lt), h.b.later hb, h.dd.later hb, h.v.keep (fun i _ hl => hb.block i hl), h.nb, h.nd, h.bd, h.l, h.cp, h.ho⟩
theorem OAt.putB {w : World} {lo ox n d m : Nat} {D : Nat → Int} {bA : Option Addr} {bc : Nat} {dA : Option Addr} {dc : Nat} {vA : Option Addr} {vc : Nat} {P : Nat → Bn} {V : Nat → Wg} (h : OAt w lo ox n d m D bA bc dA dc vA vc P V) {g j : Nat} (hA : bA = some ⟨g, 0, none⟩) (hj : j < n) (x : Bn) : OAt (setBn w g (j * 7) x) lo ox n d m D bA bc dA dc vA vc (fun i => if i = j then x else P i) V := by
  have hl := h.l _ (.inl hA)
  dsimp only at hl
  refine ⟨h.o.same (setBn_heap _ _ (by omega)), h.b.put hA hj x, h.dd.keepA (fun a ha => setBn_heap _ _ (fun e => h.bd _ _ hA ha e.symm)), fun k hk => ?_, h.nb, h.nd, h.bd, h.l, h.cp, h.ho⟩
  obtain ⟨b, hA', hl', c0, c1, c2, c3, hf⟩ := h.v k hk
  have hs : (setBn w g (j * 7) x).heap[b]? = w.heap[b]? := setBn_heap _ _ (fun e => h.nb _ _ hA hA' e.symm)
  exact ⟨b, hA', hl', cell_same hs c0, cell_same hs c1, cell_same hs c2, cell_same hs c3, fun i => fro_same hs (hf i)⟩
theorem OAt.putV {w : World} {lo ox n d m : Nat} {D : Nat → Int} {bA : Option Addr} {bc : Nat} {dA : Option Addr} {dc : Nat} {vA : Option Addr} {vc : Nat} {P : Nat → Bn} {V : Nat → Wg} (h : OAt w lo ox n d m D bA bc dA dc vA vc P V) {g j : Nat} (hA : vA = some ⟨g, 0, none⟩) (hj : j < m) (f t : Int) : OAt ((w.setCell ⟨g, j * 4, none⟩ (.int .i64 f)).setCell ⟨g, j * 4 + 1, none⟩ (.int .i64 t)) lo ox n d m D bA bc dA dc vA vc P (fun i => if i = j then ⟨f, t, (V j).p, (V j).e⟩ else V i) := by
  have hl := h.l _ (.inr (.inr hA))
  dsimp only at hl
  have hk : ∀ i, i ≠ g → ((w.setCell ⟨g, j * 4, none⟩ (.int .i64 f)).setCell ⟨g, j * 4 + 1, none⟩ (.int .i64 t)).heap[i]? = w.heap[i]? := fun i hi => (set_heap _ (by exact hi)).trans (set_heap _ (by exact hi))
  exact ⟨h.o.same (hk _ (by omega)), h.b.keepA (fun a ha => hk _ (h.nb _ _ ha hA)), h.dd.keepA (fun a ha => hk _ (h.nd _ _ ha hA)), h.v.putft hA hj f t, h.nb, h.nd, h.bd, h.l, h.cp, h.ho⟩
theorem OAt.congrB {w : World} {lo ox n d m : Nat} {D : Nat → Int} {bA : Option Addr} {bc : Nat} {dA : Option Addr} {dc : Nat} {vA : Option Addr} {vc : Nat} {P P' : Nat → Bn} {V : Nat → Wg} (h : OAt w lo ox n d m D bA bc dA dc vA vc P V) (hP : ∀ i, i < n → P i = P' i) : OAt w lo ox n d m D bA bc dA dc vA vc P' V :=
  ⟨h.o, fun k hk => by
    obtain ⟨b, c⟩ := h.b k hk
    rw [hP k hk] at c
    exact ⟨b, c⟩, h.dd, h.v, h.nb, h.nd, h.bd, h.l, h.cp, h.ho⟩
theorem OAt.congrV {w : World} {lo ox n d m : Nat} {D : Nat → Int} {bA : Option Addr} {bc : Nat} {dA : Option Addr} {dc : Nat} {vA : Option Addr} {vc : Nat} {P : Nat → Bn} {V V' : Nat → Wg} (h : OAt w lo ox n d m D bA bc dA dc vA vc P V) (hV : ∀ i, i < m → V i = V' i) : OAt w lo ox n d m D bA bc dA dc vA vc P V' :=
  ⟨h.o, h.b, h.dd, fun k hk => by
    obtain ⟨b, c⟩ := h.v k hk
    rw [hV k hk] at c
    exact ⟨b, c⟩, h.nb, h.nd, h.bd, h.l, h.cp, h.ho⟩

set_option maxRecDepth 100000 in
set_option maxHeartbeats 8000000 in
theorem turned_loop1 (r : Rw) (HOK : Hid r.ok) (rx ox lo : Nat) (hlo : rx < lo) (bA dA vA : Option Addr) (bc dc vc : Nat) (D : Nat → Int) (obA odA ovA : Option Addr) (obc odc ovc : Nat) (V : Nat → Wg) {u0 u1 u2 u3 u4 u5 u6 u10 u11 u12 u13 u14 u15 u16 u17 u18 u19 u20 u21 u22 u23 u24 u25 u26 u27 u28 u29 u30 u31 u32 u33 u34 u35 u36 u37 u38 u39 u40 u41 u42 u43 u44 u45 u46 u47 u48 u49 u50 u51 u52 u53 u54 u55 u56 u57 u58 u59 u60 u63 u64 u65 u66 u67 u68 u69 u70 u71 u72 u73 u74 u75 u76 u77 u78 u79 u80 u81 u82 u83 u84 u85 u86 u87 u88 u89 u90 u91 u92 u93 u94 u95 u96 u97 u98 u99 u100 u101 u102 u103 u104 u105 u106 u107 u108 u109 u110 u111 u112 u113 u114 u115 u116 u117 u118 u119 u120 u121 u122 u123 u124 u125 u126 u127 u128 u129 u130 u131 u132 u133 u134 u135 u136 u137 u138 u139 u140 u141 u142 u143 u144 u145 u146 u147 u148 u149 u150 u151 u152 u153 u154 u155 u156 u157 u158 u159 u160 u161 u162 u163 u164 u165 u166 u167 u168 u169 u170 u171 u172 u173 u174 u175 u176 u177 u178 u179 u180 u181 u182 u183 u184 u185 u186 u187 u188 u189 u190 u191 u192 u193 u194 u195 u196 u197 u198 u199 u200 u201 u202 u203 u204 u205 u206 u207 u208 u209 u210 u211 u212 u213 u214 u215 u216 u217 u218 u219 u220 u221 u222 u223 u224 u225 u226 u227 u228 u229 u230 u231 u232 u233 u234 u235 u236 u237 u238 u239 u240 u241 u242 u243 u244 u245 u246 u247 u248 u249 u250 u251 u252 u253 u254 u255 u256 u257 u258 u259 u260 u261 u262 u263 u264 u265 u266 u267 u268 u269 u270 u271 u272 u273 u274 : Value} (w : World)
    (HA : Hid (RwAt w rx r bA bc dA dc vA vc)) (HR : Hid (RwRow w lo r bA bc dA dc vA vc)) (HO : Hid (OAt w lo ox r.n r.d r.m D obA obc odA odc ovA ovc r.B V))
    (Q : Exit → Act → World → Prop) (hK : ∀ {x10 x62 x63 x64 x65 x66 x67 x68 x69 x70 x71 x72 x73 x74 x75 x76 x77 : Value} (w' : World), Hid (Below lo w w' ∧ OAt w' lo ox r.n r.d r.m D obA obc odA odc ovA ovc r.mir.B V) → Q .normal ⟨(List.toArray (u0 :: u1 :: u2 :: u3 :: u4 :: u5 :: u6 :: (.pointer (some ⟨rx, 0, none⟩)) :: (.int .i64 (r.n : Int)) :: (.pointer (some ⟨ox, 0, none⟩)) :: x10 :: u11 :: u12 :: u13 :: u14 :: u15 :: u16 :: u17 :: u18 :: u19 :: u20 :: u21 :: u22 :: u23 :: u24 :: u25 :: u26 :: u27 :: u28 :: u29 :: u30 :: u31 :: u32 :: u33 :: u34 :: u35 :: u36 :: u37 :: u38 :: u39 :: u40 :: u41 :: u42 :: u43 :: u44 :: u45 :: u46 :: u47 :: u48 :: u49 :: u50 :: u51 :: u52 :: u53 :: u54 :: u55 :: u56 :: u57 :: u58 :: u59 :: u60 :: (.int .i64 (r.n : Int)) :: x62 :: x63 :: x64 :: x65 :: x66 :: x67 :: x68 :: x69 :: x70 :: x71 :: x72 :: x73 :: x74 :: x75 :: x76 :: x77 :: u78 :: u79 :: u80 :: u81 :: u82 :: u83 :: u84 :: u85 :: u86 :: u87 :: u88 :: u89 :: u90 :: u91 :: u92 :: u93 :: u94 :: u95 :: u96 :: u97 :: u98 :: u99 :: u100 :: u101 :: u102 :: u103 :: u104 :: u105 :: u106 :: u107 :: u108 :: u109 :: u110 :: u111 :: u112 :: u113 :: u114 :: u115 :: u116 :: u117 :: u118 :: u119 :: u120 :: u121 :: u122 :: u123 :: u124 :: u125 :: u126 :: u127 :: u128 :: u129 :: u130 :: u131 :: u132 :: u133 :: u134 :: u135 :: u136 :: u137 :: u138 :: u139 :: u140 :: u141 :: u142 :: u143 :: u144 :: u145 :: u146 :: u147 :: u148 :: u149 :: u150 :: u151 :: u152 :: u153 :: u154 :: u155 :: u156 :: u157 :: u158 :: u159 :: u160 :: u161 :: u162 :: u163 :: u164 :: u165 :: u166 :: u167 :: u168 :: u169 :: u170 :: u171 :: u172 :: u173 :: u174 :: u175 :: u176 :: u177 :: u178 :: u179 :: u180 :: u181 :: u182 :: u183 :: u184 :: u185 :: u186 :: u187 :: u188 :: u189 :: u190 :: u191 :: u192 :: u193 :: u194 :: u195 :: u196 :: u197 :: u198 :: u199 :: u200 :: u201 :: u202 :: u203 :: u204 :: u205 :: u206 :: u207 :: u208 :: u209 :: u210 :: u211 :: u212 :: u213 :: u214 :: u215 :: u216 :: u217 :: u218 :: u219 :: u220 :: u221 :: u222 :: u223 :: u224 :: u225 :: u226 :: u227 :: u228 :: u229 :: u230 :: u231 :: u232 :: u233 :: u234 :: u235 :: u236 :: u237 :: u238 :: u239 :: u240 :: u241 :: u242 :: u243 :: u244 :: u245 :: u246 :: u247 :: u248 :: u249 :: u250 :: u251 :: u252 :: u253 :: u254 :: u255 :: u256 :: u257 :: u258 :: u259 :: u260 :: u261 :: u262 :: u263 :: u264 :: u265 :: u266 :: u267 :: u268 :: u269 :: u270 :: u271 :: u272 :: u273 :: u274 :: [])), []⟩ w') :
    Code.wp Try.prog (blkIn Try.f7 0) Q ⟨(List.toArray (u0 :: u1 :: u2 :: u3 :: u4 :: u5 :: u6 :: (.pointer (some ⟨rx, 0, none⟩)) :: (.int .i64 (r.n : Int)) :: (.pointer (some ⟨ox, 0, none⟩)) :: u10 :: u11 :: u12 :: u13 :: u14 :: u15 :: u16 :: u17 :: u18 :: u19 :: u20 :: u21 :: u22 :: u23 :: u24 :: u25 :: u26 :: u27 :: u28 :: u29 :: u30 :: u31 :: u32 :: u33 :: u34 :: u35 :: u36 :: u37 :: u38 :: u39 :: u40 :: u41 :: u42 :: u43 :: u44 :: u45 :: u46 :: u47 :: u48 :: u49 :: u50 :: u51 :: u52 :: u53 :: u54 :: u55 :: u56 :: u57 :: u58 :: u59 :: u60 :: (.int .i64 (r.n : Int)) :: (.int .i64 0) :: u63 :: u64 :: u65 :: u66 :: u67 :: u68 :: u69 :: u70 :: u71 :: u72 :: u73 :: u74 :: u75 :: u76 :: u77 :: u78 :: u79 :: u80 :: u81 :: u82 :: u83 :: u84 :: u85 :: u86 :: u87 :: u88 :: u89 :: u90 :: u91 :: u92 :: u93 :: u94 :: u95 :: u96 :: u97 :: u98 :: u99 :: u100 :: u101 :: u102 :: u103 :: u104 :: u105 :: u106 :: u107 :: u108 :: u109 :: u110 :: u111 :: u112 :: u113 :: u114 :: u115 :: u116 :: u117 :: u118 :: u119 :: u120 :: u121 :: u122 :: u123 :: u124 :: u125 :: u126 :: u127 :: u128 :: u129 :: u130 :: u131 :: u132 :: u133 :: u134 :: u135 :: u136 :: u137 :: u138 :: u139 :: u140 :: u141 :: u142 :: u143 :: u144 :: u145 :: u146 :: u147 :: u148 :: u149 :: u150 :: u151 :: u152 :: u153 :: u154 :: u155 :: u156 :: u157 :: u158 :: u159 :: u160 :: u161 :: u162 :: u163 :: u164 :: u165 :: u166 :: u167 :: u168 :: u169 :: u170 :: u171 :: u172 :: u173 :: u174 :: u175 :: u176 :: u177 :: u178 :: u179 :: u180 :: u181 :: u182 :: u183 :: u184 :: u185 :: u186 :: u187 :: u188 :: u189 :: u190 :: u191 :: u192 :: u193 :: u194 :: u195 :: u196 :: u197 :: u198 :: u199 :: u200 :: u201 :: u202 :: u203 :: u204 :: u205 :: u206 :: u207 :: u208 :: u209 :: u210 :: u211 :: u212 :: u213 :: u214 :: u215 :: u216 :: u217 :: u218 :: u219 :: u220 :: u221 :: u222 :: u223 :: u224 :: u225 :: u226 :: u227 :: u228 :: u229 :: u230 :: u231 :: u232 :: u233 :: u234 :: u235 :: u236 :: u237 :: u238 :: u239 :: u240 :: u241 :: u242 :: u243 :: u244 :: u245 :: u246 :: u247 :: u248 :: u249 :: u250 :: u251 :: u252 :: u253 :: u254 :: u255 :: u256 :: u257 :: u258 :: u259 :: u260 :: u261 :: u262 :: u263 :: u264 :: u265 :: u266 :: u267 :: u268 :: u269 :: u270 :: u271 :: u272 :: u273 :: u274 :: [])), []⟩ w := by
  (conv => arg 2; whnf)
  have hn6 := HOK.out.n6
  go_wp2_with fail
  go_loopw [62] (fun i wr => ∃ k : Nat, k ≤ r.n ∧ i = .int .i64 k ∧ Hid (Below lo w wr) ∧ Hid (OAt wr lo ox r.n r.d r.m D obA obc odA odc ovA ovc (fun i => if r.n ≤ i + k then r.B (r.n - 1 - i) else r.B i) V)) (fun i _ => r.n - (intOf i).toNat)
  case atStart =>
    refine ⟨0, Nat.zero_le _, rfl, Lib.hid (Below.refl _ _), Lib.hid ?_⟩
    have h := HO.out
    exact ⟨h.o, fun k hk => by
      obtain ⟨b, c⟩ := h.b k hk
      refine ⟨b, ?_⟩
      rw [if_neg (by omega)]
      exact c, h.dd, h.v, h.nb, h.nd, h.bd, h.l, h.cp, h.ho⟩
  case round =>
    clear HO
    obtain ⟨k, hk, rfl, HBw, HOw⟩ := hrel
    obtain ⟨wo, rfl⟩ : ∃ wo, wo = wr := ⟨_, rfl⟩
    by_cases hlt : k < r.n
    · have hk0 : (0 : Int) ≤ (k : Int) := by omega
      have hkn : (k : Int) < ((r.n : Nat) : Int) := by omega
      have ek : IntKind.i64.wrap ((k : Int) + 1) = (k : Int) + 1 := IntWalk.i64_in _ (by omega)
      obtain ⟨q, hq⟩ : ∃ q : Nat, q = r.n - 1 - k := ⟨_, rfl⟩
      have hqn : q < r.n := by omega
      have hq0 : (0 : Int) ≤ (q : Int) := by omega
      have hqi : (q : Int) < ((r.n : Nat) : Int) := by omega
      have e1 : IntKind.i64.wrap ((r.n : Int) - 1) = (r.n : Int) - 1 := IntWalk.i64_in _ (by omega)
      have e2 : IntKind.i64.wrap ((r.n : Int) - 1 - (k : Int)) = (q : Int) := (IntWalk.i64_in _ (by omega)).trans (by omega)
      obtain ⟨gb, go, hgA, hgl, d0, d1, d2, d3, d4, d5, d6⟩ := (HR.out.later HBw.out).b k hlt
      obtain ⟨ob, hoA, hol, o0, o1, o2, o3, o4, o5, o6, of⟩ := HOw.out.b q hqn
      have c0 := (HA.out.same (HBw.out.block _ hlo)).c0
      have x0 := HOw.out.o.c0
      have f0 := of (q * 7)
      have f1 := of (q * 7 + 1)
      have f2 := of (q * 7 + 2)
      have f3 := of (q * 7 + 3)
      have f4 := of (q * 7 + 4)
      have f5 := of (q * 7 + 5)
      have f6 := of (q * 7 + 6)
      have hcap := HOw.out.cp.1
      have hne := HOw.out.l _ (.inl hoA)
      dsimp only at hne
      have hge : lo ≤ ox := HOw.out.ho
      have HP := Lib.hid (HOw.out.putB hoA hqn (r.B k))
      have HBP := Lib.hid (setBn_below (o := q * 7) (x := r.B k) HBw.out hne.1)
      obtain ⟨y, hy⟩ : ∃ y, y = r.B k := ⟨_, rfl⟩
      rw [← hy] at d0 d1 d2 d3 d4 d5 d6 HP HBP
      have HY := Lib.hid hy
      have HQ := Lib.hid hq
      subst hgA hoA
      clear of HOw HBw hy hq
      go_upto_region 8 with fail
      go_region_held3 (fun w' => w'.cell? ⟨rx, 0, none⟩ = some (.slice (some ⟨gb, go, none⟩) r.n bc) ∧ w'.cell? ⟨ox, 0, none⟩ = some (.slice (some ⟨ob, 0, none⟩) r.n obc) ∧ w'.cell? ⟨gb, go + k * 7, none⟩ = some (.int .i64 (y.lo 0)) ∧ w'.cell? ⟨gb, go + k * 7 + 1, none⟩ = some (.int .i64 (y.hi 0)) ∧ w'.cell? ⟨gb, go + k * 7 + 2, none⟩ = some (.int .i64 (y.lo 1)) ∧ w'.cell? ⟨gb, go + k * 7 + 3, none⟩ = some (.int .i64 (y.hi 1)) ∧ w'.cell? ⟨gb, go + k * 7 + 4, none⟩ = some (.int .i64 (y.lo 2)) ∧ w'.cell? ⟨gb, go + k * 7 + 5, none⟩ = some (.int .i64 (y.hi 2)) ∧ w'.cell? ⟨gb, go + k * 7 + 6, none⟩ = some (.int .i64 y.s)) ((go_split_ands; (repeat' refine And.intro ?_ ?_) <;> (repeat (first | with_reducible assumption | (simp; done) | (with_reducible first | refine Kd ?_ | refine Kn ?_ | refine Kb (by assumption) ?_) | ((with_reducible first | refine Kw ?_ ?_ | refine Fw ?_) <;> first | with_reducible rfl | (simp; done)) | (with_reducible first | refine Ka _ ?_ | refine Ks _ (by first | exact Nat.le_refl _ | omega | (simp; done) | (simp; omega)) ?_ | refine Fd ?_ | refine Fn ?_ | refine Fb (by assumption) (by first | exact Nat.le_refl _ | omega | (simp; done) | (simp; omega)) ?_ | refine Fa _ (by first | exact Nat.le_refl _ | omega | (simp; done) | (simp; omega)) ?_ | refine Fs _ ?_))))) (fail)
      have HO9 : Hid (OAt (setBn wo ob (q * 7) y).drew lo ox r.n r.d r.m D (some ⟨ob, 0, none⟩) obc odA odc ovA ovc (fun i => if r.n ≤ i + (k + 1) then r.B (r.n - 1 - i) else r.B i) V) := Lib.hid ((HP.out.later (show Below (setBn wo ob (q * 7) y).heap.size _ (setBn wo ob (q * 7) y).drew from (Below.refl _ _).drew)).congrB (fun i hi => by
        have hq := HQ.out
        by_cases e : i = q
        · rw [if_pos e, if_pos (by omega), HY.out, show r.n - 1 - i = k by omega]
        · rw [if_neg e]
          by_cases e3 : r.n ≤ i + k
          · rw [if_pos e3, if_pos (by omega)]
          · rw [if_neg e3, if_neg (by omega)]))
      have HB9 : Hid (Below lo w (setBn wo ob (q * 7) y).drew) := Lib.hid HBP.out.drew
      unfold setBn at HO9 HB9
      clear HP HBP c0 x0 d0 d1 d2 d3 d4 d5 d6 o0 o1 o2 o3 o4 o5 o6 f0 f1 f2 f3 f4 f5 f6
      go_wp2_with fail
      go_roundw
      case rel => exact ⟨k + 1, by omega, by go_num, HB9, HO9⟩
      case measure => simp [intOf]; omega
    · obtain rfl : k = r.n := by omega
      have hge : ¬ ((r.n : Nat) : Int) < ((r.n : Nat) : Int) := by omega
      have HE : Hid (Below lo w wo ∧ OAt wo lo ox r.n r.d r.m D obA obc odA odc ovA ovc r.mir.B V) := Lib.hid (by
        have h := HOw.out
        exact ⟨HBw.out, h.o, fun i hi => by
          obtain ⟨b, c⟩ := h.b i hi
          refine ⟨b, ?_⟩
          dsimp only at c
          rw [if_pos (by omega)] at c
          exact c, h.dd, h.v, h.nb, h.nd, h.bd, h.l, h.cp, h.ho⟩)
      clear HOw HBw
      go_wp2_with fail
      all_goals exact HE

set_option maxRecDepth 100000 in
set_option maxHeartbeats 8000000 in
theorem turned_loop2 (r : Rw) (HOK : Hid r.ok) (rx ox lo : Nat) (bA dA vA : Option Addr) (bc dc vc : Nat) (hvc : r.m ≤ vc) (D : Nat → Int) (obA odA ovA : Option Addr) (obc odc ovc : Nat) (P : Nat → Bn) {u0 u1 u2 u3 u4 u5 u6 u7 u10 u11 u12 u13 u14 u15 u16 u17 u18 u19 u20 u21 u22 u23 u24 u25 u26 u27 u28 u29 u30 u31 u32 u33 u34 u35 u36 u37 u38 u39 u40 u41 u42 u43 u44 u45 u46 u47 u48 u49 u50 u51 u52 u53 u54 u55 u56 u57 u58 u59 u60 u61 u62 u63 u64 u65 u66 u67 u68 u69 u70 u71 u72 u73 u74 u75 u76 u77 u78 u82 u83 u84 u85 u86 u87 u88 u89 u90 u91 u92 u93 u94 u95 u96 u97 u98 u99 u100 u101 u102 u103 u104 u105 u106 u107 u108 u109 u110 u111 u112 u113 u114 u115 u116 u117 u118 u119 u120 u121 u122 u123 u124 u125 u126 u127 u128 u129 u130 u131 u132 u133 u134 u135 u136 u137 u138 u139 u140 u141 u142 u143 u144 u145 u146 u147 u148 u149 u150 u151 u152 u153 u154 u155 u156 u157 u158 u159 u160 u161 u162 u163 u164 u165 u166 u167 u168 u169 u170 u171 u172 u173 u174 u175 u176 u177 u178 u179 u180 u181 u182 u183 u184 u185 u186 u187 u188 u189 u190 u191 u192 u193 u194 u195 u196 u197 u198 u199 u200 u201 u202 u203 u204 u205 u206 u207 u208 u209 u210 u211 u212 u213 u214 u215 u216 u217 u218 u219 u220 u221 u222 u223 u224 u225 u226 u227 u228 u229 u230 u231 u232 u233 u234 u235 u236 u237 u238 u239 u240 u241 u242 u243 u244 u245 u246 u247 u248 u249 u250 u251 u252 u253 u254 u255 u256 u257 u258 u259 u260 u261 u262 u263 u264 u265 u266 u267 u268 u269 u270 u271 u272 u273 u274 : Value} (w : World)
    (HR : Hid (RwRow w lo r bA bc dA dc vA vc)) (HO : Hid (OAt w lo ox r.n r.d r.m D obA obc odA odc ovA ovc P r.V))
    (Q : Exit → Act → World → Prop) (hK : ∀ {x11 x12 x81 x82 x83 x84 x85 x86 x87 x88 x89 x90 x91 x92 x93 x94 x95 x96 x97 x98 x99 x100 x101 x102 x103 x104 x105 x106 : Value} (w' : World), Hid (Below lo w w' ∧ OAt w' lo ox r.n r.d r.m D obA obc odA odc ovA ovc P r.mir.V) → Q .normal ⟨(List.toArray (u0 :: u1 :: u2 :: u3 :: u4 :: u5 :: u6 :: u7 :: (.int .i64 (r.n : Int)) :: (.pointer (some ⟨ox, 0, none⟩)) :: u10 :: x11 :: x12 :: u13 :: u14 :: u15 :: u16 :: u17 :: u18 :: u19 :: u20 :: u21 :: u22 :: u23 :: u24 :: u25 :: u26 :: u27 :: u28 :: u29 :: u30 :: u31 :: u32 :: u33 :: u34 :: u35 :: u36 :: u37 :: u38 :: u39 :: u40 :: u41 :: u42 :: u43 :: u44 :: u45 :: u46 :: u47 :: u48 :: u49 :: u50 :: u51 :: u52 :: u53 :: u54 :: u55 :: u56 :: u57 :: u58 :: u59 :: u60 :: u61 :: u62 :: u63 :: u64 :: u65 :: u66 :: u67 :: u68 :: u69 :: u70 :: u71 :: u72 :: u73 :: u74 :: u75 :: u76 :: u77 :: u78 :: (.slice vA r.m vc) :: (.int .i64 (r.m : Int)) :: x81 :: x82 :: x83 :: x84 :: x85 :: x86 :: x87 :: x88 :: x89 :: x90 :: x91 :: x92 :: x93 :: x94 :: x95 :: x96 :: x97 :: x98 :: x99 :: x100 :: x101 :: x102 :: x103 :: x104 :: x105 :: x106 :: u107 :: u108 :: u109 :: u110 :: u111 :: u112 :: u113 :: u114 :: u115 :: u116 :: u117 :: u118 :: u119 :: u120 :: u121 :: u122 :: u123 :: u124 :: u125 :: u126 :: u127 :: u128 :: u129 :: u130 :: u131 :: u132 :: u133 :: u134 :: u135 :: u136 :: u137 :: u138 :: u139 :: u140 :: u141 :: u142 :: u143 :: u144 :: u145 :: u146 :: u147 :: u148 :: u149 :: u150 :: u151 :: u152 :: u153 :: u154 :: u155 :: u156 :: u157 :: u158 :: u159 :: u160 :: u161 :: u162 :: u163 :: u164 :: u165 :: u166 :: u167 :: u168 :: u169 :: u170 :: u171 :: u172 :: u173 :: u174 :: u175 :: u176 :: u177 :: u178 :: u179 :: u180 :: u181 :: u182 :: u183 :: u184 :: u185 :: u186 :: u187 :: u188 :: u189 :: u190 :: u191 :: u192 :: u193 :: u194 :: u195 :: u196 :: u197 :: u198 :: u199 :: u200 :: u201 :: u202 :: u203 :: u204 :: u205 :: u206 :: u207 :: u208 :: u209 :: u210 :: u211 :: u212 :: u213 :: u214 :: u215 :: u216 :: u217 :: u218 :: u219 :: u220 :: u221 :: u222 :: u223 :: u224 :: u225 :: u226 :: u227 :: u228 :: u229 :: u230 :: u231 :: u232 :: u233 :: u234 :: u235 :: u236 :: u237 :: u238 :: u239 :: u240 :: u241 :: u242 :: u243 :: u244 :: u245 :: u246 :: u247 :: u248 :: u249 :: u250 :: u251 :: u252 :: u253 :: u254 :: u255 :: u256 :: u257 :: u258 :: u259 :: u260 :: u261 :: u262 :: u263 :: u264 :: u265 :: u266 :: u267 :: u268 :: u269 :: u270 :: u271 :: u272 :: u273 :: u274 :: [])), []⟩ w') :
    Code.wp Try.prog (blkIn Try.f7 2) Q ⟨(List.toArray (u0 :: u1 :: u2 :: u3 :: u4 :: u5 :: u6 :: u7 :: (.int .i64 (r.n : Int)) :: (.pointer (some ⟨ox, 0, none⟩)) :: u10 :: u11 :: u12 :: u13 :: u14 :: u15 :: u16 :: u17 :: u18 :: u19 :: u20 :: u21 :: u22 :: u23 :: u24 :: u25 :: u26 :: u27 :: u28 :: u29 :: u30 :: u31 :: u32 :: u33 :: u34 :: u35 :: u36 :: u37 :: u38 :: u39 :: u40 :: u41 :: u42 :: u43 :: u44 :: u45 :: u46 :: u47 :: u48 :: u49 :: u50 :: u51 :: u52 :: u53 :: u54 :: u55 :: u56 :: u57 :: u58 :: u59 :: u60 :: u61 :: u62 :: u63 :: u64 :: u65 :: u66 :: u67 :: u68 :: u69 :: u70 :: u71 :: u72 :: u73 :: u74 :: u75 :: u76 :: u77 :: u78 :: (.slice vA r.m vc) :: (.int .i64 (r.m : Int)) :: (.int .i64 0) :: u82 :: u83 :: u84 :: u85 :: u86 :: u87 :: u88 :: u89 :: u90 :: u91 :: u92 :: u93 :: u94 :: u95 :: u96 :: u97 :: u98 :: u99 :: u100 :: u101 :: u102 :: u103 :: u104 :: u105 :: u106 :: u107 :: u108 :: u109 :: u110 :: u111 :: u112 :: u113 :: u114 :: u115 :: u116 :: u117 :: u118 :: u119 :: u120 :: u121 :: u122 :: u123 :: u124 :: u125 :: u126 :: u127 :: u128 :: u129 :: u130 :: u131 :: u132 :: u133 :: u134 :: u135 :: u136 :: u137 :: u138 :: u139 :: u140 :: u141 :: u142 :: u143 :: u144 :: u145 :: u146 :: u147 :: u148 :: u149 :: u150 :: u151 :: u152 :: u153 :: u154 :: u155 :: u156 :: u157 :: u158 :: u159 :: u160 :: u161 :: u162 :: u163 :: u164 :: u165 :: u166 :: u167 :: u168 :: u169 :: u170 :: u171 :: u172 :: u173 :: u174 :: u175 :: u176 :: u177 :: u178 :: u179 :: u180 :: u181 :: u182 :: u183 :: u184 :: u185 :: u186 :: u187 :: u188 :: u189 :: u190 :: u191 :: u192 :: u193 :: u194 :: u195 :: u196 :: u197 :: u198 :: u199 :: u200 :: u201 :: u202 :: u203 :: u204 :: u205 :: u206 :: u207 :: u208 :: u209 :: u210 :: u211 :: u212 :: u213 :: u214 :: u215 :: u216 :: u217 :: u218 :: u219 :: u220 :: u221 :: u222 :: u223 :: u224 :: u225 :: u226 :: u227 :: u228 :: u229 :: u230 :: u231 :: u232 :: u233 :: u234 :: u235 :: u236 :: u237 :: u238 :: u239 :: u240 :: u241 :: u242 :: u243 :: u244 :: u245 :: u246 :: u247 :: u248 :: u249 :: u250 :: u251 :: u252 :: u253 :: u254 :: u255 :: u256 :: u257 :: u258 :: u259 :: u260 :: u261 :: u262 :: u263 :: u264 :: u265 :: u266 :: u267 :: u268 :: u269 :: u270 :: u271 :: u272 :: u273 :: u274 :: [])), []⟩ w := by
  (conv => arg 2; whnf)
  have hn6 := HOK.out.n6
  have hm10 := HOK.out.m10
  go_wp2_with fail
  go_loopw [81] (fun i wr => ∃ k : Nat, k ≤ r.m ∧ i = .int .i64 k ∧ Hid (Below lo w wr) ∧ Hid (OAt wr lo ox r.n r.d r.m D obA obc odA odc ovA ovc P (fun i => if i < k then r.mir.V i else r.V i))) (fun i _ => r.m - (intOf i).toNat)
  case atStart => exact ⟨0, Nat.zero_le _, rfl, Lib.hid (Below.refl _ _), Lib.hid (HO.out.congrV (fun i hi => by rw [if_neg (by omega)]))⟩
  case round =>
    clear HO
    obtain ⟨k, hk, rfl, HBw, HOw⟩ := hrel
    obtain ⟨wo, rfl⟩ : ∃ wo, wo = wr := ⟨_, rfl⟩
    by_cases hlt : k < r.m
    · have hk0 : (0 : Int) ≤ (k : Int) := by omega
      have hkn : (k : Int) < ((r.m : Nat) : Int) := by omega
      have ek : IntKind.i64.wrap ((k : Int) + 1) = (k : Int) + 1 := IntWalk.i64_in _ (by omega)
      have hv := HOK.out.v k hlt
      have hvf := hv.f
      have hvt := hv.t
      have hvft := hv.ft
      obtain ⟨gb, go, hgA, hgl, d0, d1, d2, d3⟩ := (HR.out.later HBw.out).v k hlt
      obtain ⟨x, hx⟩ : ∃ x, x = r.V k := ⟨_, rfl⟩
      rw [← hx] at d0 d1 d2 d3 hvf hvt hvft
      have HX := Lib.hid hx
      have e1 : IntKind.i64.wrap ((r.n : Int) - 1) = (r.n : Int) - 1 := IntWalk.i64_in _ (by omega)
      have e2 : IntKind.i64.wrap ((r.n : Int) - 1 - x.t) = (r.n : Int) - 1 - x.t := IntWalk.i64_in _ (by omega)
      have e3 : IntKind.i64.wrap ((r.n : Int) - 1 - x.f) = (r.n : Int) - 1 - x.f := IntWalk.i64_in _ (by omega)
      subst hgA
      clear hv hx
      go_upto_region 13 with fail
      refine wp_world (fun w' => (w'.cell? ⟨wo.heap.size, 0, none⟩ = some (.int .i64 x.f) ∧ w'.cell? ⟨wo.heap.size, 1, none⟩ = some (.int .i64 x.t)) ∧ Below wo.heap.size wo w' ∧ wo.heap.size + 1 ≤ w'.heap.size) ⟨⟨(by (repeat' refine And.intro ?_ ?_) <;> (repeat (first | with_reducible assumption | (simp; done) | (with_reducible first | refine Kd ?_ | refine Kn ?_ | refine Kb (by assumption) ?_) | ((with_reducible first | refine Kw ?_ ?_ | refine Fw ?_) <;> first | with_reducible rfl | (simp; done)) | (with_reducible first | refine Ka _ ?_ | refine Ks _ (by first | exact Nat.le_refl _ | omega | (simp; done) | (simp; omega)) ?_ | refine Fd ?_ | refine Fn ?_ | refine Fb (by assumption) (by first | exact Nat.le_refl _ | omega | (simp; done) | (simp; omega)) ?_ | refine Fa _ (by first | exact Nat.le_refl _ | omega | (simp; done) | (simp; omega)) ?_ | refine Fs _ ?_)))), (by (repeat' refine And.intro ?_ ?_) <;> (repeat (first | with_reducible assumption | (simp; done) | (with_reducible first | refine Kd ?_ | refine Kn ?_ | refine Kb (by assumption) ?_) | ((with_reducible first | refine Kw ?_ ?_ | refine Fw ?_) <;> first | with_reducible rfl | (simp; done)) | (with_reducible first | refine Ka _ ?_ | refine Ks _ (by first | exact Nat.le_refl _ | omega | (simp; done) | (simp; omega)) ?_ | refine Fd ?_ | refine Fn ?_ | refine Fb (by assumption) (by first | exact Nat.le_refl _ | omega | (simp; done) | (simp; omega)) ?_ | refine Fa _ (by first | exact Nat.le_refl _ | omega | (simp; done) | (simp; omega)) ?_ | refine Fs _ ?_))))⟩, (by repeat (first | (with_reducible first | exact Below.refl _ _ | assumption | refine Below.drew ?_) | ((with_reducible first | refine Lc ?_ ?_ _ | refine Ls ?_ ?_ _ | refine Lv (by assumption) ?_ ?_); · first | exact Nat.le_refl _ | omega | (dsimp only; omega) | (simp only [World.size_alloc, World.size_drew, World.heap_drewN]; omega) | (simp; omega)))), by simp⟩ ?_
      rintro w9 ⟨⟨p0, p1⟩, hb9, hs9⟩
      have hlow : lo ≤ wo.heap.size := by have := HOw.out.ho; have := HOw.out.o.lt; omega
      have HB9 := Lib.hid (HBw.out.trans (hb9.mono hlow))
      have HO9 := Lib.hid (HOw.out.later hb9)
      obtain ⟨ob, hoA, hol, o0, o1, o2, o3, of⟩ := HO9.out.v k hlt
      have x2 := HO9.out.o.c2
      have f0 := of (k * 4)
      have f1 := of (k * 4 + 1)
      have hcap := HO9.out.cp.2.2
      have hne := HO9.out.l _ (.inr (.inr hoA))
      dsimp only at hne
      have hwo : ob ≠ wo.heap.size := by
        have h1 : ob < wo.heap.size := by
          obtain ⟨ob', hoA', _, o0', _⟩ := HOw.out.v k hlt
          rw [hoA] at hoA'
          injection hoA' with hoA'
          injection hoA' with h1 h2
          rw [h1]
          exact World.block_lt_of_cell? wo _ o0'
        omega
      have hoxw : ox ≠ wo.heap.size := by have := HOw.out.o.lt; omega
      obtain ⟨wb, hwb⟩ : ∃ wb, wb = wo.heap.size := ⟨_, rfl⟩
      rw [← hwb] at p0 p1 hs9 hwo hoxw
      rw [← hwb]
      have HP := Lib.hid (HO9.out.putV hoA hlt ((r.n : Int) - 1 - x.t) ((r.n : Int) - 1 - x.f))
      have HBP : Hid (Below lo w ((w9.setCell ⟨ob, k * 4, none⟩ (.int .i64 ((r.n : Int) - 1 - x.t))).setCell ⟨ob, k * 4 + 1, none⟩ (.int .i64 ((r.n : Int) - 1 - x.f)))) := Lib.hid ((HB9.out.setCell (by dsimp only; omega) _).setCell (by dsimp only; omega) _)
      subst hoA
      clear of HOw HBw HO9 HB9 hb9 hwb o2 o3 hlow d0 d1 d2 d3
      go_region_held3 (fun w' => w'.cell? ⟨ox, 2, none⟩ = some (.slice (some ⟨ob, 0, none⟩) r.m ovc) ∧ w'.cell? ⟨wb, 0, none⟩ = some (.int .i64 x.f) ∧ w'.cell? ⟨wb, 1, none⟩ = some (.int .i64 x.t)) ((go_split_ands; (repeat' refine And.intro ?_ ?_) <;> (repeat (first | with_reducible assumption | (simp; done) | (with_reducible first | refine Kd ?_ | refine Kn ?_ | refine Kb (by assumption) ?_) | ((with_reducible first | refine Kw ?_ ?_ | refine Fw ?_) <;> first | with_reducible rfl | (simp; done)) | (with_reducible first | refine Ka _ ?_ | refine Ks _ (by first | exact Nat.le_refl _ | omega | (simp; done) | (simp; omega)) ?_ | refine Fd ?_ | refine Fn ?_ | refine Fb (by assumption) (by first | exact Nat.le_refl _ | omega | (simp; done) | (simp; omega)) ?_ | refine Fa _ (by first | exact Nat.le_refl _ | omega | (simp; done) | (simp; omega)) ?_ | refine Fs _ ?_))))) (fail)
      have HO9 : Hid (OAt ((w9.setCell ⟨ob, k * 4, none⟩ (.int .i64 ((r.n : Int) - 1 - x.t))).setCell ⟨ob, k * 4 + 1, none⟩ (.int .i64 ((r.n : Int) - 1 - x.f))).drew lo ox r.n r.d r.m D obA obc odA odc (some ⟨ob, 0, none⟩) ovc P (fun i => if i < k + 1 then r.mir.V i else r.V i)) := Lib.hid ((HP.out.later ((Below.refl _ _).drew)).congrV (fun i hi => by
        by_cases e : i = k
        · rw [if_pos e, if_pos (show i < k + 1 by omega), if_neg (show ¬ k < k by omega), e, HX.out]
          rfl
        · rw [if_neg e]
          by_cases e3 : i < k
          · rw [if_pos e3, if_pos (show i < k + 1 by omega)]
          · rw [if_neg e3, if_neg (show ¬ i < k + 1 by omega)]))
      have HB9 := Lib.hid HBP.out.drew
      clear HP HBP x2 p0 p1 o0 o1 f0 f1
      go_wp2_with fail
      go_roundw
      case rel => exact ⟨k + 1, by omega, by go_num, HB9, HO9⟩
      case measure => simp [intOf]; omega
    · obtain rfl : k = r.m := by omega
      have hge : ¬ ((r.m : Nat) : Int) < ((r.m : Nat) : Int) := by omega
      have HE : Hid (Below lo w wo ∧ OAt wo lo ox r.n r.d r.m D obA obc odA odc ovA ovc P r.mir.V) := Lib.hid ⟨HBw.out, HOw.out.congrV (fun i hi => by rw [if_pos hi])⟩
      clear HOw HBw
      go_wp2_with fail
      all_goals exact HE
end Go.Proofs.Ytnnikeolgknfoaa
