/- BinSettled's closures: the width of a row, and a row with an exact weighing more. -/
import Derived.Test.YtnnikeolgknfoaaI1
import Derived.Test.YtnnikeolgknfoaaGc
import Derived.Test.YtnnikeolgknfoaaD3
set_option linter.unusedSimpArgs false
set_option linter.unusedVariables false
namespace Go.Proofs.Ytnnikeolgknfoaa
open Go.RowKit Go.Shelf

set_option maxRecDepth 100000 in
set_option maxHeartbeats 4000000 in
theorem wid_any (r : Rw) (hr : r.ok) (h0 : r.round = []) (bA dA vA : Option Addr) (bc dc vc : Nat) (W : World) (hrow : RwRow W W.heap.size r bA bc dA dc vA vc) :
    Calls Try.prog 26 #[rwV bA r.n bc dA r.d dc vA r.m vc] W fun e W' => e = .returned (.tuple #[.int .i64 r.wid, .bool true]) ∧ Below W.heap.size W W' := by
  have HF := Lib.hid (Rw.fin_nil hr h0)
  have hn6 := hr.n6
  have HFE := Lib.hid (Rw.fit_zero hr h0)
  have HR := Lib.hid hrow
  clear hrow h0 hr
  go_enter Try.func26, Try.ntmps26
  go_upto_region 1 with fail
  refine wp_world (fun W1 => RwAt W1 W.heap.size r bA bc dA dc vA vc ∧ Below W.heap.size W W1 ∧ W.heap.size + 1 ≤ W1.heap.size) ⟨⟨(by (repeat' refine And.intro ?_ ?_) <;> (repeat (first | with_reducible assumption | (simp; done) | (with_reducible first | refine Kd ?_ | refine Kn ?_ | refine Kb (by assumption) ?_) | ((with_reducible first | refine Kw ?_ ?_ | refine Fw ?_) <;> first | with_reducible rfl | (simp; done)) | (with_reducible first | refine Ka _ ?_ | refine Ks _ (by first | exact Nat.le_refl _ | omega | (simp; done) | (simp; omega)) ?_ | refine Fd ?_ | refine Fn ?_ | refine Fb (by assumption) (by first | exact Nat.le_refl _ | omega | (simp; done) | (simp; omega)) ?_ | refine Fa _ (by first | exact Nat.le_refl _ | omega | (simp; done) | (simp; omega)) ?_ | refine Fs _ ?_)))), (by (repeat' refine And.intro ?_ ?_) <;> (repeat (first | with_reducible assumption | (simp; done) | (with_reducible first | refine Kd ?_ | refine Kn ?_ | refine Kb (by assumption) ?_) | ((with_reducible first | refine Kw ?_ ?_ | refine Fw ?_) <;> first | with_reducible rfl | (simp; done)) | (with_reducible first | refine Ka _ ?_ | refine Ks _ (by first | exact Nat.le_refl _ | omega | (simp; done) | (simp; omega)) ?_ | refine Fd ?_ | refine Fn ?_ | refine Fb (by assumption) (by first | exact Nat.le_refl _ | omega | (simp; done) | (simp; omega)) ?_ | refine Fa _ (by first | exact Nat.le_refl _ | omega | (simp; done) | (simp; omega)) ?_ | refine Fs _ ?_)))), (by (repeat' refine And.intro ?_ ?_) <;> (repeat (first | with_reducible assumption | (simp; done) | (with_reducible first | refine Kd ?_ | refine Kn ?_ | refine Kb (by assumption) ?_) | ((with_reducible first | refine Kw ?_ ?_ | refine Fw ?_) <;> first | with_reducible rfl | (simp; done)) | (with_reducible first | refine Ka _ ?_ | refine Ks _ (by first | exact Nat.le_refl _ | omega | (simp; done) | (simp; omega)) ?_ | refine Fd ?_ | refine Fn ?_ | refine Fb (by assumption) (by first | exact Nat.le_refl _ | omega | (simp; done) | (simp; omega)) ?_ | refine Fa _ (by first | exact Nat.le_refl _ | omega | (simp; done) | (simp; omega)) ?_ | refine Fs _ ?_))))⟩, (by repeat (first | (with_reducible first | exact Below.refl _ _ | assumption | refine Below.drew ?_) | ((with_reducible first | refine Lc ?_ ?_ _ | refine Ls ?_ ?_ _ | refine Lv (by assumption) ?_ ?_); · first | exact Nat.le_refl _ | omega | (dsimp only; omega) | (simp only [World.size_alloc, World.size_drew, World.heap_drewN]; omega) | (simp; omega)))), by simp⟩ ?_
  rintro w1 ⟨ha1, hb1, hs1⟩
  have HA1 := Lib.hid ha1
  have HB1 := Lib.hid hb1
  have HR1 := Lib.hid (HR.out.on hb1)
  have hs1' := hb1.size
  obtain ⟨c0, c1, c2⟩ := ha1
  clear hb1
  go_wp2_with fail
  refine (Holds_any r bA dA vA bc dc vc _ HR1.out).mono ?_
  intro e w2 hpost
  obtain ⟨sA, sc, rfl, hsr, hsc, hb2⟩ := sps_of hpost HFE.out
  have HB2 := Lib.hid (HB1.out.trans (hb2.mono hs1'))
  have HA2 := Lib.hid (HA1.out.later hb2)
  have HS2 := Lib.hid hsr
  have hs2 := HB2.out.size
  clear hpost hsr hb2 HR1 HB1 HA1 c0 c1 c2 HR
  go_wp2_with fail
  go_loopw [6, 16] (fun v i wr => ∃ k : Nat, k ≤ r.n ∧ i = .int .i64 k ∧ v = .int .i64 (widO r.search.1.L k) ∧ Hid (Below w2.heap.size w2 wr)) (fun _ i _ => r.n - (intOf i).toNat)
  case atStart => exact ⟨0, Nat.zero_le _, rfl, rfl, Lib.hid (Below.refl _ _)⟩
  case round =>
    obtain ⟨k, hk, rfl, rfl, HBw⟩ := hrel
    obtain ⟨wo, rfl⟩ : ∃ wo, wo = wr := ⟨_, rfl⟩
    have hsw := HBw.out.size
    by_cases hlt : k < r.n
    · have hk0 : (0 : Int) ≤ (k : Int) := by omega
      have hkn : (k : Int) < (r.n : Int) := by omega
      have ek : IntKind.i64.wrap ((k : Int) + 1) = (k : Int) + 1 := IntWalk.i64_in _ (by omega)
      obtain ⟨gb, go, hgA, hgl, d0, d1⟩ := (HS2.out.below HBw.out) k hlt
      subst hgA
      have hd1 := HF.out.d k (k + 1) (by omega) (by omega)
      have hd2 := HF.out.d (k + 1) k (by omega) (by omega)
      have hp := widO_pos HF.out k (by omega)
      have e1 : r.span k k = ⟨-r.search.1.L (k + 1) k, r.search.1.L k (k + 1)⟩ := rfl
      have e2 : widO r.search.1.L (k + 1) = widO r.search.1.L k + (r.search.1.L k (k + 1) - -r.search.1.L (k + 1) k) := rfl
      dsimp only at d0 d1
      rw [e1] at d0 d1
      dsimp only at d0 d1
      obtain ⟨x1, hx1⟩ : ∃ x, x = -r.search.1.L (k + 1) k := ⟨_, rfl⟩
      obtain ⟨x2, hx2⟩ : ∃ x, x = r.search.1.L k (k + 1) := ⟨_, rfl⟩
      obtain ⟨u, hu⟩ : ∃ x, x = widO r.search.1.L k := ⟨_, rfl⟩
      rw [← hx1, ← hx2, ← hu] at e2
      rw [← hx1] at d0
      rw [← hx2] at d1
      rw [← hu]
      have HE := Lib.hid e2
      have w1' : IntKind.i64.wrap (x2 - x1) = x2 - x1 := IntWalk.i64_in _ (by omega)
      have w2' : IntKind.i64.wrap (u + (x2 - x1)) = u + (x2 - x1) := IntWalk.i64_in _ (by omega)
      clear hd1 hd2 hp e1 e2 hx1 hx2 hu
      go_upto_region 6 with fail
      refine wp_world (fun w' => N2c w' wo.heap.size x1 x2 ∧ Below wo.heap.size wo w' ∧ wo.heap.size + 1 ≤ w'.heap.size) ⟨⟨(by (repeat' refine And.intro ?_ ?_) <;> (repeat (first | with_reducible assumption | (simp; done) | (with_reducible first | refine Kd ?_ | refine Kn ?_ | refine Kb (by assumption) ?_) | ((with_reducible first | refine Kw ?_ ?_ | refine Fw ?_) <;> first | with_reducible rfl | (simp; done)) | (with_reducible first | refine Ka _ ?_ | refine Ks _ (by first | exact Nat.le_refl _ | omega | (simp; done) | (simp; omega)) ?_ | refine Fd ?_ | refine Fn ?_ | refine Fb (by assumption) (by first | exact Nat.le_refl _ | omega | (simp; done) | (simp; omega)) ?_ | refine Fa _ (by first | exact Nat.le_refl _ | omega | (simp; done) | (simp; omega)) ?_ | refine Fs _ ?_)))), (by (repeat' refine And.intro ?_ ?_) <;> (repeat (first | with_reducible assumption | (simp; done) | (with_reducible first | refine Kd ?_ | refine Kn ?_ | refine Kb (by assumption) ?_) | ((with_reducible first | refine Kw ?_ ?_ | refine Fw ?_) <;> first | with_reducible rfl | (simp; done)) | (with_reducible first | refine Ka _ ?_ | refine Ks _ (by first | exact Nat.le_refl _ | omega | (simp; done) | (simp; omega)) ?_ | refine Fd ?_ | refine Fn ?_ | refine Fb (by assumption) (by first | exact Nat.le_refl _ | omega | (simp; done) | (simp; omega)) ?_ | refine Fa _ (by first | exact Nat.le_refl _ | omega | (simp; done) | (simp; omega)) ?_ | refine Fs _ ?_))))⟩, (by repeat (first | (with_reducible first | exact Below.refl _ _ | assumption | refine Below.drew ?_) | ((with_reducible first | refine Lc ?_ ?_ _ | refine Ls ?_ ?_ _ | refine Lv (by assumption) ?_ ?_); · first | exact Nat.le_refl _ | omega | (dsimp only; omega) | (simp only [World.size_alloc, World.size_drew, World.heap_drewN]; omega) | (simp; omega)))), by simp⟩ ?_
      rintro w9 ⟨hp9, hb9, hs9⟩
      have HB9 := Lib.hid (HBw.out.trans (hb9.mono hsw))
      obtain ⟨q0, q1⟩ := hp9
      obtain ⟨bx, hbx⟩ : ∃ x, x = wo.heap.size := ⟨_, rfl⟩
      rw [← hbx] at q0 q1
      rw [← hbx]
      clear hb9 hs9 hbx d0 d1
      go_wp2_with fail
      go_roundw
      case rel => exact ⟨k + 1, by omega, by go_num, by rw [HE.out], HB9⟩
      case measure => simp [intOf]; omega
    · obtain rfl : k = r.n := by omega
      have hge : ¬ ((r.n : Nat) : Int) < ((r.n : Nat) : Int) := by omega
      have HBe := Lib.hid (HB2.out.trans (HBw.out.mono hs2))
      have hne := HBe.out.size
      obtain ⟨c0, -, -⟩ := HA2.out.later HBw.out
      have q0 := cell_regrown c0
      have hnn : ((r.n : Int) == (r.n : Int)) = true := by simp
      clear c0
      go_upto_region 8 with fail
      refine region_qbw (by kernel_rfl) (by kernel_rfl) ?_
      repeat (first | go_big_quiet_step (fail) | quiet_step (fail))
      refine wpQuiet_nil ?_; intro wq hbq
      have HQ := Lib.hid (HBe.out.trans (hbq.mono hne))
      clear q0 hbq
      go_wp2_with fail
      go_ret2
      exact ⟨rfl, HQ.out⟩

set_option maxRecDepth 100000 in
set_option maxHeartbeats 4000000 in
theorem exact_any (r : Rw) (hr : r.ok) (h1d : 1 ≤ r.d) (hm : r.m < 10) (f t : Nat) (k : Int) (hx : (⟨f, t, k, 0⟩ : Wg).ok r.n) (bA dA vA : Option Addr) (bc dc vc : Nat) (W : World) (hrow : RwRow W W.heap.size r bA bc dA dc vA vc) :
    Calls Try.prog 27 #[rwV bA r.n bc dA r.d dc vA r.m vc, .int .i64 (f : Int), .int .i64 (t : Int), .int .i64 k] W fun e W' => ∃ (bA' dA' vA' : Option Addr) (bc' dc' vc' : Nat), e = .returned (rwV bA' r.n bc' dA' r.d dc' vA' (r.m + 1) vc') ∧ RwRow W' W'.heap.size (r.more ⟨f, t, k, 0⟩) bA' bc' dA' dc' vA' vc' ∧ Below W.heap.size W W' ∧ ∀ a, (bA' = some a ∨ dA' = some a ∨ vA' = some a) → W.heap.size ≤ a.block := by
  have HR := Lib.hid hrow
  have HOK := Lib.hid hr
  have HX := Lib.hid hx
  have h1n := hr.n1
  obtain ⟨i0, hi, hz0, hz1, hz2⟩ := info_parts infoWg
  clear hrow hr hx
  go_enter Try.func27, Try.ntmps27
  go_upto_region 1 with fail
  refine wp_world (fun W1 => RwAt W1 W.heap.size r bA bc dA dc vA vc ∧ V3 W1 (W.heap.size + 1) (.slice none 0 0) (.slice none 0 0) (.slice none 0 0) ∧ Below W.heap.size W W1 ∧ W.heap.size + 2 ≤ W1.heap.size) ⟨⟨(by (repeat' refine And.intro ?_ ?_) <;> (repeat (first | with_reducible assumption | (simp; done) | (with_reducible first | refine Kd ?_ | refine Kn ?_ | refine Kb (by assumption) ?_) | ((with_reducible first | refine Kw ?_ ?_ | refine Fw ?_) <;> first | with_reducible rfl | (simp; done)) | (with_reducible first | refine Ka _ ?_ | refine Ks _ (by first | exact Nat.le_refl _ | omega | (simp; done) | (simp; omega)) ?_ | refine Fd ?_ | refine Fn ?_ | refine Fb (by assumption) (by first | exact Nat.le_refl _ | omega | (simp; done) | (simp; omega)) ?_ | refine Fa _ (by first | exact Nat.le_refl _ | omega | (simp; done) | (simp; omega)) ?_ | refine Fs _ ?_)))), (by (repeat' refine And.intro ?_ ?_) <;> (repeat (first | with_reducible assumption | (simp; done) | (with_reducible first | refine Kd ?_ | refine Kn ?_ | refine Kb (by assumption) ?_) | ((with_reducible first | refine Kw ?_ ?_ | refine Fw ?_) <;> first | with_reducible rfl | (simp; done)) | (with_reducible first | refine Ka _ ?_ | refine Ks _ (by first | exact Nat.le_refl _ | omega | (simp; done) | (simp; omega)) ?_ | refine Fd ?_ | refine Fn ?_ | refine Fb (by assumption) (by first | exact Nat.le_refl _ | omega | (simp; done) | (simp; omega)) ?_ | refine Fa _ (by first | exact Nat.le_refl _ | omega | (simp; done) | (simp; omega)) ?_ | refine Fs _ ?_)))), (by (repeat' refine And.intro ?_ ?_) <;> (repeat (first | with_reducible assumption | (simp; done) | (with_reducible first | refine Kd ?_ | refine Kn ?_ | refine Kb (by assumption) ?_) | ((with_reducible first | refine Kw ?_ ?_ | refine Fw ?_) <;> first | with_reducible rfl | (simp; done)) | (with_reducible first | refine Ka _ ?_ | refine Ks _ (by first | exact Nat.le_refl _ | omega | (simp; done) | (simp; omega)) ?_ | refine Fd ?_ | refine Fn ?_ | refine Fb (by assumption) (by first | exact Nat.le_refl _ | omega | (simp; done) | (simp; omega)) ?_ | refine Fa _ (by first | exact Nat.le_refl _ | omega | (simp; done) | (simp; omega)) ?_ | refine Fs _ ?_))))⟩, ⟨(by (repeat' refine And.intro ?_ ?_) <;> (repeat (first | with_reducible assumption | (simp; done) | (with_reducible first | refine Kd ?_ | refine Kn ?_ | refine Kb (by assumption) ?_) | ((with_reducible first | refine Kw ?_ ?_ | refine Fw ?_) <;> first | with_reducible rfl | (simp; done)) | (with_reducible first | refine Ka _ ?_ | refine Ks _ (by first | exact Nat.le_refl _ | omega | (simp; done) | (simp; omega)) ?_ | refine Fd ?_ | refine Fn ?_ | refine Fb (by assumption) (by first | exact Nat.le_refl _ | omega | (simp; done) | (simp; omega)) ?_ | refine Fa _ (by first | exact Nat.le_refl _ | omega | (simp; done) | (simp; omega)) ?_ | refine Fs _ ?_)))), (by (repeat' refine And.intro ?_ ?_) <;> (repeat (first | with_reducible assumption | (simp; done) | (with_reducible first | refine Kd ?_ | refine Kn ?_ | refine Kb (by assumption) ?_) | ((with_reducible first | refine Kw ?_ ?_ | refine Fw ?_) <;> first | with_reducible rfl | (simp; done)) | (with_reducible first | refine Ka _ ?_ | refine Ks _ (by first | exact Nat.le_refl _ | omega | (simp; done) | (simp; omega)) ?_ | refine Fd ?_ | refine Fn ?_ | refine Fb (by assumption) (by first | exact Nat.le_refl _ | omega | (simp; done) | (simp; omega)) ?_ | refine Fa _ (by first | exact Nat.le_refl _ | omega | (simp; done) | (simp; omega)) ?_ | refine Fs _ ?_)))), (by (repeat' refine And.intro ?_ ?_) <;> (repeat (first | with_reducible assumption | (simp; done) | (with_reducible first | refine Kd ?_ | refine Kn ?_ | refine Kb (by assumption) ?_) | ((with_reducible first | refine Kw ?_ ?_ | refine Fw ?_) <;> first | with_reducible rfl | (simp; done)) | (with_reducible first | refine Ka _ ?_ | refine Ks _ (by first | exact Nat.le_refl _ | omega | (simp; done) | (simp; omega)) ?_ | refine Fd ?_ | refine Fn ?_ | refine Fb (by assumption) (by first | exact Nat.le_refl _ | omega | (simp; done) | (simp; omega)) ?_ | refine Fa _ (by first | exact Nat.le_refl _ | omega | (simp; done) | (simp; omega)) ?_ | refine Fs _ ?_)))), (by (repeat' refine And.intro ?_ ?_) <;> (repeat (first | with_reducible assumption | (simp; done) | (with_reducible first | refine Kd ?_ | refine Kn ?_ | refine Kb (by assumption) ?_) | ((with_reducible first | refine Kw ?_ ?_ | refine Fw ?_) <;> first | with_reducible rfl | (simp; done)) | (with_reducible first | refine Ka _ ?_ | refine Ks _ (by first | exact Nat.le_refl _ | omega | (simp; done) | (simp; omega)) ?_ | refine Fd ?_ | refine Fn ?_ | refine Fb (by assumption) (by first | exact Nat.le_refl _ | omega | (simp; done) | (simp; omega)) ?_ | refine Fa _ (by first | exact Nat.le_refl _ | omega | (simp; done) | (simp; omega)) ?_ | refine Fs _ ?_)))), (by (repeat' refine And.intro ?_ ?_) <;> (repeat (first | with_reducible assumption | (simp; done) | (with_reducible first | refine Kd ?_ | refine Kn ?_ | refine Kb (by assumption) ?_) | ((with_reducible first | refine Kw ?_ ?_ | refine Fw ?_) <;> first | with_reducible rfl | (simp; done)) | (with_reducible first | refine Ka _ ?_ | refine Ks _ (by first | exact Nat.le_refl _ | omega | (simp; done) | (simp; omega)) ?_ | refine Fd ?_ | refine Fn ?_ | refine Fb (by assumption) (by first | exact Nat.le_refl _ | omega | (simp; done) | (simp; omega)) ?_ | refine Fa _ (by first | exact Nat.le_refl _ | omega | (simp; done) | (simp; omega)) ?_ | refine Fs _ ?_)))), (by (repeat' refine And.intro ?_ ?_) <;> (repeat (first | with_reducible assumption | (simp; done) | (with_reducible first | refine Kd ?_ | refine Kn ?_ | refine Kb (by assumption) ?_) | ((with_reducible first | refine Kw ?_ ?_ | refine Fw ?_) <;> first | with_reducible rfl | (simp; done)) | (with_reducible first | refine Ka _ ?_ | refine Ks _ (by first | exact Nat.le_refl _ | omega | (simp; done) | (simp; omega)) ?_ | refine Fd ?_ | refine Fn ?_ | refine Fb (by assumption) (by first | exact Nat.le_refl _ | omega | (simp; done) | (simp; omega)) ?_ | refine Fa _ (by first | exact Nat.le_refl _ | omega | (simp; done) | (simp; omega)) ?_ | refine Fs _ ?_))))⟩, (by repeat (first | (with_reducible first | exact Below.refl _ _ | assumption | refine Below.drew ?_) | ((with_reducible first | refine Lc ?_ ?_ _ | refine Ls ?_ ?_ _ | refine Lv (by assumption) ?_ ?_); · first | exact Nat.le_refl _ | omega | (dsimp only; omega) | (simp only [World.size_alloc, World.size_drew, World.heap_drewN]; omega) | (simp; omega)))), by simp⟩ ?_
  rintro w1 ⟨ha1, hv1, hb1, hs1⟩
  have HB1 := Lib.hid hb1
  have HV1 := Lib.hid hv1
  have HR1 := Lib.hid (HR.out.on hb1)
  have hs1' := hb1.size
  obtain ⟨c0, c1, c2⟩ := ha1
  clear hb1 hv1 HR
  go_wp2_with fail
  refine (own2_any r h1n h1d bA dA vA bc dc vc _ HR1.out).mono ?_
  intro e w2 hpost
  obtain ⟨c, rfl, hc, hcs, hce, hb2⟩ := CpAt.of h1n h1d hpost
  have HC2 := Lib.hid hc
  have HV2 := Lib.hid (HV1.out.same (hb2.block _ HV1.out.lt))
  have HB2 := Lib.hid (HB1.out.trans (hb2.mono hs1'))
  have hs2 := hb2.size
  have hlo : W.heap.size + 2 ≤ c.s ∧ c.e ≤ w2.heap.size := by omega
  clear hpost hc hb2 hcs hce c0 c1 c2 HR1 HV1 HB1
  go_upto_region 2 with fail
  refine wp_world (fun w' => V3 w' w2.heap.size (.slice c.bA r.n c.bc) (.slice c.dA r.d c.dc) (.slice c.vA r.m c.vc) ∧ Below w2.heap.size w2 w' ∧ w2.heap.size + 1 ≤ w'.heap.size) ⟨⟨(by (repeat' refine And.intro ?_ ?_) <;> (repeat (first | with_reducible assumption | (simp; done) | (with_reducible first | refine Kd ?_ | refine Kn ?_ | refine Kb (by assumption) ?_) | ((with_reducible first | refine Kw ?_ ?_ | refine Fw ?_) <;> first | with_reducible rfl | (simp; done)) | (with_reducible first | refine Ka _ ?_ | refine Ks _ (by first | exact Nat.le_refl _ | omega | (simp; done) | (simp; omega)) ?_ | refine Fd ?_ | refine Fn ?_ | refine Fb (by assumption) (by first | exact Nat.le_refl _ | omega | (simp; done) | (simp; omega)) ?_ | refine Fa _ (by first | exact Nat.le_refl _ | omega | (simp; done) | (simp; omega)) ?_ | refine Fs _ ?_)))), (by (repeat' refine And.intro ?_ ?_) <;> (repeat (first | with_reducible assumption | (simp; done) | (with_reducible first | refine Kd ?_ | refine Kn ?_ | refine Kb (by assumption) ?_) | ((with_reducible first | refine Kw ?_ ?_ | refine Fw ?_) <;> first | with_reducible rfl | (simp; done)) | (with_reducible first | refine Ka _ ?_ | refine Ks _ (by first | exact Nat.le_refl _ | omega | (simp; done) | (simp; omega)) ?_ | refine Fd ?_ | refine Fn ?_ | refine Fb (by assumption) (by first | exact Nat.le_refl _ | omega | (simp; done) | (simp; omega)) ?_ | refine Fa _ (by first | exact Nat.le_refl _ | omega | (simp; done) | (simp; omega)) ?_ | refine Fs _ ?_)))), (by (repeat' refine And.intro ?_ ?_) <;> (repeat (first | with_reducible assumption | (simp; done) | (with_reducible first | refine Kd ?_ | refine Kn ?_ | refine Kb (by assumption) ?_) | ((with_reducible first | refine Kw ?_ ?_ | refine Fw ?_) <;> first | with_reducible rfl | (simp; done)) | (with_reducible first | refine Ka _ ?_ | refine Ks _ (by first | exact Nat.le_refl _ | omega | (simp; done) | (simp; omega)) ?_ | refine Fd ?_ | refine Fn ?_ | refine Fb (by assumption) (by first | exact Nat.le_refl _ | omega | (simp; done) | (simp; omega)) ?_ | refine Fa _ (by first | exact Nat.le_refl _ | omega | (simp; done) | (simp; omega)) ?_ | refine Fs _ ?_)))), (by (repeat' refine And.intro ?_ ?_) <;> (repeat (first | with_reducible assumption | (simp; done) | (with_reducible first | refine Kd ?_ | refine Kn ?_ | refine Kb (by assumption) ?_) | ((with_reducible first | refine Kw ?_ ?_ | refine Fw ?_) <;> first | with_reducible rfl | (simp; done)) | (with_reducible first | refine Ka _ ?_ | refine Ks _ (by first | exact Nat.le_refl _ | omega | (simp; done) | (simp; omega)) ?_ | refine Fd ?_ | refine Fn ?_ | refine Fb (by assumption) (by first | exact Nat.le_refl _ | omega | (simp; done) | (simp; omega)) ?_ | refine Fa _ (by first | exact Nat.le_refl _ | omega | (simp; done) | (simp; omega)) ?_ | refine Fs _ ?_)))), (by (repeat' refine And.intro ?_ ?_) <;> (repeat (first | with_reducible assumption | (simp; done) | (with_reducible first | refine Kd ?_ | refine Kn ?_ | refine Kb (by assumption) ?_) | ((with_reducible first | refine Kw ?_ ?_ | refine Fw ?_) <;> first | with_reducible rfl | (simp; done)) | (with_reducible first | refine Ka _ ?_ | refine Ks _ (by first | exact Nat.le_refl _ | omega | (simp; done) | (simp; omega)) ?_ | refine Fd ?_ | refine Fn ?_ | refine Fb (by assumption) (by first | exact Nat.le_refl _ | omega | (simp; done) | (simp; omega)) ?_ | refine Fa _ (by first | exact Nat.le_refl _ | omega | (simp; done) | (simp; omega)) ?_ | refine Fs _ ?_)))), (by (repeat' refine And.intro ?_ ?_) <;> (repeat (first | with_reducible assumption | (simp; done) | (with_reducible first | refine Kd ?_ | refine Kn ?_ | refine Kb (by assumption) ?_) | ((with_reducible first | refine Kw ?_ ?_ | refine Fw ?_) <;> first | with_reducible rfl | (simp; done)) | (with_reducible first | refine Ka _ ?_ | refine Ks _ (by first | exact Nat.le_refl _ | omega | (simp; done) | (simp; omega)) ?_ | refine Fd ?_ | refine Fn ?_ | refine Fb (by assumption) (by first | exact Nat.le_refl _ | omega | (simp; done) | (simp; omega)) ?_ | refine Fa _ (by first | exact Nat.le_refl _ | omega | (simp; done) | (simp; omega)) ?_ | refine Fs _ ?_))))⟩, (by repeat (first | (with_reducible first | exact Below.refl _ _ | assumption | refine Below.drew ?_) | ((with_reducible first | refine Lc ?_ ?_ _ | refine Ls ?_ ?_ _ | refine Lv (by assumption) ?_ ?_); · first | exact Nat.le_refl _ | omega | (dsimp only; omega) | (simp only [World.size_alloc, World.size_drew, World.heap_drewN]; omega) | (simp; omega)))), by simp⟩ ?_
  rintro w3 ⟨hv3, hb3, hs3⟩
  have hb3' := hb3
  have HX3 : Hid (CpBox w3 r c w2.heap.size) := Lib.hid ⟨HC2.out.keep (fun i h1 h2 => hb3.block i (by omega)) hb3.size, hv3⟩
  have HV3 := Lib.hid (HV2.out.same (hb3.block _ HV2.out.lt))
  have HB3 := Lib.hid (HB2.out.trans (hb3.mono (by omega)))
  obtain ⟨z, hz⟩ : ∃ z, z = w2.heap.size := ⟨_, rfl⟩
  rw [← hz] at HX3 hs3 hlo hs2
  rw [← hz]
  have hzl : W.heap.size + 2 ≤ z := by omega
  have v2 := HX3.out.bx.c2
  have vf2 := HX3.out.bx.f2
  have hlv := fun q (hq : (Value.slice c.vA r.m c.vc).ownBlock = some q) => HX3.out.cp.vl q hq
  have hcm := HX3.out.cp.sm
  have hcme := HX3.out.cp.me
  have hce0 := HX3.out.cp.e
  have HO0 := Lib.hid HX3.out.cp.v
  clear hv3 hb3 hb3' hz HC2 HV2 HB2
  go_upto_region 3 with (at_builtin; refine wpList_append_lies _ rfl (.tmp 13) (.tmp 18) 25 rfl c.m 35 i0 (.agg #[.int .i64 0, .int .i64 0, .int .i64 0, .int .i64 0]) 4 32 wgs_under hi hz0 hz1 hz2 rfl (by decide) _ r.m (rowC wgC r.V r.m) rfl (HO0.out.alloc _) ⟨w3.heap.size, 0, none⟩ 1 1 (wgC ⟨f, t, k, 0⟩) rfl rfl (new_cells (cs := wgC ⟨f, t, k, 0⟩)) (wgC_one ⟨f, t, k, 0⟩) (by omega) (by unfold maxLen; omega) (by omega) (by simp; omega) (w3.heap.size + 1) (by simp) ?_; intro g cap w6 hown6 hgr6 hat6 hlt6; have s6 : w6.heap[z]? = w3.heap[z]? := (hgr6.block z (by simp; omega) (fun e => by have := hlv _ e.symm; omega)).trans (Below.heap_alloc _ _ _ (by omega)); have a6 := cell_same s6 v2; have b6 := fro_same s6 vf2)
  have hap := HX3.out.app HOK.out hm HX.out (by omega) (E0 := w3.heap.size) (by omega) (Nat.le_refl _) hown6 hgr6 hat6
  refine wp_world (fun w' => RowF w' z (r.more ⟨f, t, k, 0⟩) (fun i => (own c z i ∨ w3.heap.size ≤ i) ∧ i < w'.heap.size) ∧ V3 w' (W.heap.size + 1) (.slice none 0 0) (.slice none 0 0) (.slice none 0 0) ∧ Below W.heap.size W w' ∧ w3.heap.size ≤ w'.heap.size) ⟨hap.1, HV3.out.same (hap.2.1 _ (by omega) (by intro h; rcases h with h1 | h1 <;> omega)), HB3.out.trans (hap.2.2.2 _ (by omega) (by omega) (by omega)), hap.2.2.1⟩ ?_
  rintro w7 ⟨⟨bA', dA', vA', bc', dc', vc', hat, hrw, -, hS⟩, hv7, hb7, hs7⟩
  have HR7 := Lib.hid hrw
  have HS7 := Lib.hid hS
  have HB7 := Lib.hid hb7
  have HV7 := Lib.hid hv7
  have hmm : (r.more ⟨f, t, k, 0⟩).n = r.n ∧ (r.more ⟨f, t, k, 0⟩).d = r.d ∧ (r.more ⟨f, t, k, 0⟩).m = r.m + 1 := ⟨rfl, rfl, rfl⟩
  obtain ⟨c0, c1, c2⟩ := hat
  rw [hmm.1] at c0
  rw [hmm.2.1] at c1
  rw [hmm.2.2] at c2
  obtain ⟨r0, r1, r2, f0, f1, f2⟩ := hv7
  clear hap hown6 hgr6 hat6 hlt6 s6 a6 b6 v2 vf2 hlv HO0 HX3 HV3 HB3 hrw hS hb7 hmm
  go_wp2_with fail
  refine name_post ?_
  intro w' hw
  have hk : ∀ i, i ≠ W.heap.size + 1 → w'.heap[i]? = w7.heap[i]? := fun i hi => by
    rw [hw]
    exact (set_heap _ (by exact hi)).trans ((set_heap _ (by exact hi)).trans (set_heap _ (by exact hi)))
  have hbf : Below W.heap.size W w' := by
    rw [hw]
    exact ((HB7.out.setCell (by dsimp only; omega) _).setCell (by dsimp only; omega) _).setCell (by dsimp only; omega) _
  have hsz : w7.heap.size ≤ w'.heap.size := by
    rw [hw]
    simp [World.setCell]
  have hres : w'.cell? ⟨W.heap.size + 1, 0, none⟩ = some (.slice bA' r.n bc') ∧ w'.cell? ⟨W.heap.size + 1, 1, none⟩ = some (.slice dA' r.d dc') ∧ w'.cell? ⟨W.heap.size + 1, 2, none⟩ = some (.slice vA' (r.m + 1) vc') := by
    rw [hw]
    exact ⟨by simp [go_sem, r0], by simp [go_sem, r0, r1], by simp [go_sem, r0, r1, r2]⟩
  clear hw
  obtain ⟨s0, s1, s2⟩ := hres
  exact bodyPost_ret (v := rwV bA' r.n bc' dA' r.d dc' vA' (r.m + 1) vc') (by simp [results, Try.results27, go_sem, s0, s1, s2]) rfl ⟨bA', dA', vA', bc', dc', vc', rfl, (HR7.out.keepS (fun a ha => hk _ (by
    have := (HS7.out a ha).1
    intro e
    rcases this with (h1 | h1) | h1 <;> omega)) hsz (Nat.le_refl _)), hbf, fun a ha => by
    have := (HS7.out a ha).1
    rcases this with (h1 | h1) | h1 <;> omega⟩
end Go.Proofs.Ytnnikeolgknfoaa
