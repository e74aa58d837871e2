/- The reference: Until. (Written by gen_wh.py.) -/
import Derived.Test.YtnnikeolgknfoaaGreatDxo
import Derived.Test.YtnnikeolgknfoaaGreatC6
import Derived.Test.YtnnikeolgknfoaaGreatBz
set_option linter.unusedSimpArgs false
set_option linter.unusedVariables false
namespace Go.Proofs.YtnnikeolgknfoaaGreat
open Go.RowKit Go.Shelf

/-- a fraction that was made lower -/
structure RtI (n0 b0 n b d : Nat) : Prop where
  c : ∃ c, 0 < c ∧ n0 = c * n ∧ b0 = c * b
  e : ∀ e, 2 ≤ e → e < d → ¬ (e ∣ n ∧ e ∣ b)
theorem RtI.div {n0 b0 n b d : Nat} (h : RtI n0 b0 n b d) (hd : 2 ≤ d) (h1 : d ∣ n) (h2 : d ∣ b) : RtI n0 b0 (n / d) (b / d) d := by
  obtain ⟨p, rfl⟩ := h1
  obtain ⟨q, rfl⟩ := h2
  rw [Nat.mul_div_cancel_left _ (by omega), Nat.mul_div_cancel_left _ (by omega)]
  obtain ⟨c, hc, e1, e2⟩ := h.c
  refine ⟨⟨c * d, Nat.mul_pos hc (by omega), by rw [e1, Nat.mul_assoc], by rw [e2, Nat.mul_assoc]⟩, fun e he hed hh => h.e e he hed ⟨Nat.dvd_trans hh.1 (Nat.dvd_mul_left _ _), Nat.dvd_trans hh.2 (Nat.dvd_mul_left _ _)⟩⟩
theorem RtI.next {n0 b0 n b d : Nat} (h : RtI n0 b0 n b d) (hn : ¬ (d ∣ n ∧ d ∣ b)) : RtI n0 b0 n b (d + 1) := ⟨h.c, fun e he hed hh => by
  by_cases e1 : e = d
  · subst e1; exact hn hh
  · exact h.e e he (by omega) hh⟩
theorem RtI.done {n0 b0 n b d : Nat} (h : RtI n0 b0 n b d) (hb : 0 < b) (hd : b < d) : n = n0 / Nat.gcd n0 b0 ∧ b = b0 / Nat.gcd n0 b0 := by
  obtain ⟨c, hc, e1, e2⟩ := h.c
  have hg : Nat.gcd n b = 1 := by
    have hp : 0 < Nat.gcd n b := Nat.gcd_pos_of_pos_right _ hb
    have hl : Nat.gcd n b ≤ b := Nat.le_of_dvd hb (Nat.gcd_dvd_right n b)
    rcases Nat.lt_or_ge (Nat.gcd n b) 2 with h1 | h1
    · omega
    · exact absurd ⟨Nat.gcd_dvd_left n b, Nat.gcd_dvd_right n b⟩ (h.e _ h1 (by omega))
  have hgg : Nat.gcd n0 b0 = c := by rw [e1, e2, Nat.gcd_mul_left, hg, Nat.mul_one]
  rw [hgg, e1, e2, Nat.mul_div_cancel_left _ hc, Nat.mul_div_cancel_left _ hc]
  exact ⟨rfl, rfl⟩

set_option maxRecDepth 100000 in
set_option maxHeartbeats 4000000 in
theorem rratio_any (n0 b0 : Nat) (hn0 : n0 ≤ 1000000) (hb0 : 0 < b0) (hb2 : b0 ≤ 1000000) (W : World) :
    Calls Tryz.prog 90 #[.int .i64 (n0 : Int), .int .i64 (b0 : Int)] W fun e W' => e = .returned (ratV n0 b0) ∧ Below W.heap.size W W' := by
  go_enter Tryz.func90, Tryz.ntmps90
  go_wp2_with fail
  go_loopw [0, 1, 5] (fun vn vb vd wr => ∃ n b d : Nat, (n ≤ 1000000 ∧ 0 < b ∧ b ≤ b0 ∧ 2 ≤ d) ∧ vn = .int .i64 n ∧ vb = .int .i64 b ∧ vd = .int .i64 d ∧ Hid (RtI n0 b0 n b d) ∧ Hid (I2 wr W.heap.size 0 0) ∧ Hid (Below W.heap.size W wr)) (fun _ _ vd _ => b0 + 1 - (intOf vd).toNat)
  case atStart => exact ⟨n0, b0, 2, by omega, rfl, rfl, rfl, Lib.hid ⟨⟨1, by omega, by omega, by omega⟩, fun e he hed => by omega⟩, Lib.hid ⟨(by (repeat' refine And.intro ?_ ?_) <;> (repeat (first | with_reducible assumption | (simp; done) | (with_reducible first | refine Kd ?_ | refine Kn ?_ | refine Kb (by assumption) ?_) | ((with_reducible first | refine Kw ?_ ?_ | refine Fw ?_) <;> first | with_reducible rfl | (simp; done)) | (with_reducible first | refine Ka _ ?_ | refine Ks _ (by first | exact Nat.le_refl _ | omega | (simp; done) | (simp; omega)) ?_ | refine Fd ?_ | refine Fn ?_ | refine Fb (by assumption) (by first | exact Nat.le_refl _ | omega | (simp; done) | (simp; omega)) ?_ | refine Fa _ (by first | exact Nat.le_refl _ | omega | (simp; done) | (simp; omega)) ?_ | refine Fs _ ?_)))), (by (repeat' refine And.intro ?_ ?_) <;> (repeat (first | with_reducible assumption | (simp; done) | (with_reducible first | refine Kd ?_ | refine Kn ?_ | refine Kb (by assumption) ?_) | ((with_reducible first | refine Kw ?_ ?_ | refine Fw ?_) <;> first | with_reducible rfl | (simp; done)) | (with_reducible first | refine Ka _ ?_ | refine Ks _ (by first | exact Nat.le_refl _ | omega | (simp; done) | (simp; omega)) ?_ | refine Fd ?_ | refine Fn ?_ | refine Fb (by assumption) (by first | exact Nat.le_refl _ | omega | (simp; done) | (simp; omega)) ?_ | refine Fa _ (by first | exact Nat.le_refl _ | omega | (simp; done) | (simp; omega)) ?_ | refine Fs _ ?_)))), (by (repeat' refine And.intro ?_ ?_) <;> (repeat (first | with_reducible assumption | (simp; done) | (with_reducible first | refine Kd ?_ | refine Kn ?_ | refine Kb (by assumption) ?_) | ((with_reducible first | refine Kw ?_ ?_ | refine Fw ?_) <;> first | with_reducible rfl | (simp; done)) | (with_reducible first | refine Ka _ ?_ | refine Ks _ (by first | exact Nat.le_refl _ | omega | (simp; done) | (simp; omega)) ?_ | refine Fd ?_ | refine Fn ?_ | refine Fb (by assumption) (by first | exact Nat.le_refl _ | omega | (simp; done) | (simp; omega)) ?_ | refine Fa _ (by first | exact Nat.le_refl _ | omega | (simp; done) | (simp; omega)) ?_ | refine Fs _ ?_)))), (by (repeat' refine And.intro ?_ ?_) <;> (repeat (first | with_reducible assumption | (simp; done) | (with_reducible first | refine Kd ?_ | refine Kn ?_ | refine Kb (by assumption) ?_) | ((with_reducible first | refine Kw ?_ ?_ | refine Fw ?_) <;> first | with_reducible rfl | (simp; done)) | (with_reducible first | refine Ka _ ?_ | refine Ks _ (by first | exact Nat.le_refl _ | omega | (simp; done) | (simp; omega)) ?_ | refine Fd ?_ | refine Fn ?_ | refine Fb (by assumption) (by first | exact Nat.le_refl _ | omega | (simp; done) | (simp; omega)) ?_ | refine Fa _ (by first | exact Nat.le_refl _ | omega | (simp; done) | (simp; omega)) ?_ | refine Fs _ ?_))))⟩, Lib.hid (by repeat (first | (with_reducible first | exact Below.refl _ _ | assumption | refine Below.drew ?_) | ((with_reducible first | refine Lc ?_ ?_ _ | refine Ls ?_ ?_ _ | refine Lv (by assumption) ?_ ?_); · first | exact Nat.le_refl _ | omega | (dsimp only; omega) | (simp only [World.size_alloc, World.size_drew, World.heap_drewN]; omega) | (simp; omega))))⟩
  case round =>
    obtain ⟨n, b, d, ⟨hn, hb, hbb, hd⟩, rfl, rfl, rfl, HR, HI, HB⟩ := hrel
    by_cases hlt : d ≤ b
    · have hdb : (d : Int) ≤ (b : Int) := by omega
      have ed : IntKind.i64.wrap ((d : Int) + 1) = (d : Int) + 1 := IntWalk.i64_in _ (by omega)
      have hd0 : (d : Int) ≠ 0 := by omega
      go_wp2_with fail
      go_loopw [0, 1] (fun vn vb wr => ∃ n b : Nat, (n ≤ 1000000 ∧ 0 < b ∧ b ≤ b0) ∧ vn = .int .i64 n ∧ vb = .int .i64 b ∧ Hid (RtI n0 b0 n b d) ∧ Hid (I2 wr W.heap.size 0 0) ∧ Hid (Below W.heap.size W wr)) (fun _ vb _ => (intOf vb).toNat)
      case atStart => exact ⟨n, b, by omega, rfl, rfl, HR, HI, HB⟩
      case round =>
        clear HR HI HB
        obtain ⟨n, b, ⟨hn, hb, hbb⟩, rfl, rfl, HR, HI, HB⟩ := hrel
        have m1 : ((n : Int).tmod (d : Int)) = ((n % d : Nat) : Int) := rfl
        have m2 : ((b : Int).tmod (d : Int)) = ((b % d : Nat) : Int) := rfl
        have u1 := Nat.mod_lt n (show 0 < d by omega)
        have u2 := Nat.mod_lt b (show 0 < d by omega)
        have v1 := Nat.mod_le n d
        have v2 := Nat.mod_le b d
        obtain ⟨x, hx⟩ : ∃ x, x = n % d := ⟨_, rfl⟩
        obtain ⟨y, hy⟩ : ∃ y, y = b % d := ⟨_, rfl⟩
        rw [← hx] at m1 u1 v1
        rw [← hy] at m2 u2 v2
        have k1 : IntKind.i64.wrap (x : Int) = (x : Int) := IntWalk.i64_in _ (by omega)
        have k2 : IntKind.i64.wrap (y : Int) = (y : Int) := IntWalk.i64_in _ (by omega)
        have HX := Lib.hid hx
        have HY := Lib.hid hy
        clear hx hy
        by_cases h1 : x = 0
        · have g1 : ((x : Int) == 0) = true := by rw [beq_iff_eq]; omega
          by_cases h2 : y = 0
          · have g2 : ((y : Int) == 0) = true := by rw [beq_iff_eq]; omega
            have d1 : d ∣ n := Nat.dvd_of_mod_eq_zero (by rw [← HX.out]; exact h1)
            have d2 : d ∣ b := Nat.dvd_of_mod_eq_zero (by rw [← HY.out]; exact h2)
            have HR2 := Lib.hid (HR.out.div hd d1 d2)
            have q1 := Nat.div_le_self n d
            have q2 : b / d < b := Nat.div_lt_self hb (by omega)
            have q3 : 0 < b / d := Nat.div_pos (Nat.le_of_dvd hb d2) (by omega)
            have t1 : ((n : Int).tdiv (d : Int)) = ((n / d : Nat) : Int) := rfl
            have t2 : ((b : Int).tdiv (d : Int)) = ((b / d : Nat) : Int) := rfl
            obtain ⟨p, hp⟩ : ∃ p, p = n / d := ⟨_, rfl⟩
            obtain ⟨q, hq⟩ : ∃ q, q = b / d := ⟨_, rfl⟩
            rw [← hp] at q1 t1 HR2
            rw [← hq] at q2 q3 t2 HR2
            have w1 : IntKind.i64.wrap (p : Int) = (p : Int) := IntWalk.i64_in _ (by omega)
            have w2 : IntKind.i64.wrap (q : Int) = (q : Int) := IntWalk.i64_in _ (by omega)
            clear hp hq d1 d2 h1 h2
            go_upto_region 5 with fail
            refine region_qbw (by kernel_rfl) (by kernel_rfl) ?_
            repeat (first | go_big_quiet_step (fail) | quiet_step (fail))
            refine wpQuiet_nil ?_; intro wq hbq
            have HI2 := Lib.hid (HI.out.same (hbq.block _ HI.out.lt))
            have HB2 := Lib.hid (HB.out.trans (hbq.mono HB.out.size))
            clear hbq
            go_wp2_with fail
            refine ⟨?_, ?measure⟩
            case measure => simp [intOf]; omega
            exact ⟨p, q, by omega, rfl, rfl, HR2, HI2, HB2⟩
          · have g2 : ((y : Int) == 0) = false := by rw [beq_eq_false_iff_ne]; omega
            have HR2 := Lib.hid (HR.out.next (fun hh => h2 (by rw [HY.out]; exact Nat.mod_eq_zero_of_dvd hh.2)))
            clear h1 h2
            go_wp2_with fail
            refine ⟨?_, ?measure⟩
            case measure => simp [intOf]; omega
            exact ⟨n, b, d + 1, by omega, rfl, rfl, by go_num, HR2, HI, HB⟩
        · have g1 : ((x : Int) == 0) = false := by rw [beq_eq_false_iff_ne]; omega
          have HR2 := Lib.hid (HR.out.next (fun hh => h1 (by rw [HX.out]; exact Nat.mod_eq_zero_of_dvd hh.1)))
          clear h1
          go_wp2_with fail
          refine ⟨?_, ?measure⟩
          case measure => simp [intOf]; omega
          exact ⟨n, b, d + 1, by omega, rfl, rfl, by go_num, HR2, HI, HB⟩
    · have hdb : ¬ (d : Int) ≤ (b : Int) := by omega
      obtain ⟨e1, e2⟩ := HR.out.done hb (by omega)
      have HE := Lib.hid (And.intro e1 e2)
      obtain ⟨c0, c1, f0, f1⟩ := HI.out
      clear e1 e2
      go_wp2_with fail
      refine bodyPost_ret (v := .agg #[.int .i64 (n : Int), .int .i64 (b : Int)]) (by simp [results, Tryz.results90, go_sem, c0, c1]) rfl ⟨by unfold ratV; rw [← HE.out.1, ← HE.out.2], ?_⟩
      exact (HB.out.setCell (by dsimp only; omega) _).setCell (by dsimp only; omega) _
end Go.Proofs.YtnnikeolgknfoaaGreat

set_option linter.unusedSimpArgs false
set_option linter.unusedVariables false
namespace Go.Proofs.YtnnikeolgknfoaaGreat
open Go.RowKit Go.Shelf

theorem binsBB {r : Rw} {b : Int} : r.binsErr b b = if inB b 0 ((r.n : Int) - 1) = false then 2 else 0 := by
  unfold Rw.binsErr
  cases inB b 0 ((r.n : Int) - 1) <;> simp

set_option maxRecDepth 100000 in
set_option maxHeartbeats 8000000 in
theorem rExpect_any (r : Rw) (b : Int) (n : Nat) (X : Nat → Int) (cA : Option Addr) (cc : Nat) (hn : n ≤ 1000) (bA dA vA : Option Addr) (bc dc vc : Nat) (W : World) (hrow : RwRow W W.heap.size r bA bc dA dc vA vc) (hch : IntRow W W.heap.size cA n X) :
    Calls Tryz.prog 23 #[rwV bA r.n bc dA r.d dc vA r.m vc, .int .i64 b, .slice cA n cc] W fun e W' => e = .returned (.tuple #[rtV (r.expR b n X Sp.a), rtV (r.expR b n X Sp.b), .int .i64 (r.expErr b n X)]) ∧ Below W.heap.size W W' := by
  have H0 := Lib.hid hrow
  have HC := Lib.hid hch
  have hn1 := hrow.n1
  have en1 : IntKind.i64.wrap ((r.n : Int) - 1) = (r.n : Int) - 1 := IntWalk.i64_in _ (by omega)
  clear hrow hch
  go_enter Tryz.func23, Tryz.ntmps23
  go_upto_region 1 with fail
  refine wp_world (fun w' => RwAt w' W.heap.size r bA bc dA dc vA vc ∧ I2 w' (W.heap.size + 1) 0 0 ∧ I2 w' (W.heap.size + 2) 0 0 ∧ Below W.heap.size W w' ∧ W.heap.size + 3 ≤ w'.heap.size) ⟨⟨(by (repeat' refine And.intro ?_ ?_) <;> (repeat (first | with_reducible assumption | (simp; done) | (with_reducible first | refine Kd ?_ | refine Kn ?_ | refine Kb (by assumption) ?_) | ((with_reducible first | refine Kw ?_ ?_ | refine Fw ?_) <;> first | with_reducible rfl | (simp; done)) | (with_reducible first | refine Ka _ ?_ | refine Ks _ (by first | exact Nat.le_refl _ | omega | (simp; done) | (simp; omega)) ?_ | refine Fd ?_ | refine Fn ?_ | refine Fb (by assumption) (by first | exact Nat.le_refl _ | omega | (simp; done) | (simp; omega)) ?_ | refine Fa _ (by first | exact Nat.le_refl _ | omega | (simp; done) | (simp; omega)) ?_ | refine Fs _ ?_)))), (by (repeat' refine And.intro ?_ ?_) <;> (repeat (first | with_reducible assumption | (simp; done) | (with_reducible first | refine Kd ?_ | refine Kn ?_ | refine Kb (by assumption) ?_) | ((with_reducible first | refine Kw ?_ ?_ | refine Fw ?_) <;> first | with_reducible rfl | (simp; done)) | (with_reducible first | refine Ka _ ?_ | refine Ks _ (by first | exact Nat.le_refl _ | omega | (simp; done) | (simp; omega)) ?_ | refine Fd ?_ | refine Fn ?_ | refine Fb (by assumption) (by first | exact Nat.le_refl _ | omega | (simp; done) | (simp; omega)) ?_ | refine Fa _ (by first | exact Nat.le_refl _ | omega | (simp; done) | (simp; omega)) ?_ | refine Fs _ ?_)))), (by (repeat' refine And.intro ?_ ?_) <;> (repeat (first | with_reducible assumption | (simp; done) | (with_reducible first | refine Kd ?_ | refine Kn ?_ | refine Kb (by assumption) ?_) | ((with_reducible first | refine Kw ?_ ?_ | refine Fw ?_) <;> first | with_reducible rfl | (simp; done)) | (with_reducible first | refine Ka _ ?_ | refine Ks _ (by first | exact Nat.le_refl _ | omega | (simp; done) | (simp; omega)) ?_ | refine Fd ?_ | refine Fn ?_ | refine Fb (by assumption) (by first | exact Nat.le_refl _ | omega | (simp; done) | (simp; omega)) ?_ | refine Fa _ (by first | exact Nat.le_refl _ | omega | (simp; done) | (simp; omega)) ?_ | refine Fs _ ?_))))⟩, ⟨(by (repeat' refine And.intro ?_ ?_) <;> (repeat (first | with_reducible assumption | (simp; done) | (with_reducible first | refine Kd ?_ | refine Kn ?_ | refine Kb (by assumption) ?_) | ((with_reducible first | refine Kw ?_ ?_ | refine Fw ?_) <;> first | with_reducible rfl | (simp; done)) | (with_reducible first | refine Ka _ ?_ | refine Ks _ (by first | exact Nat.le_refl _ | omega | (simp; done) | (simp; omega)) ?_ | refine Fd ?_ | refine Fn ?_ | refine Fb (by assumption) (by first | exact Nat.le_refl _ | omega | (simp; done) | (simp; omega)) ?_ | refine Fa _ (by first | exact Nat.le_refl _ | omega | (simp; done) | (simp; omega)) ?_ | refine Fs _ ?_)))), (by (repeat' refine And.intro ?_ ?_) <;> (repeat (first | with_reducible assumption | (simp; done) | (with_reducible first | refine Kd ?_ | refine Kn ?_ | refine Kb (by assumption) ?_) | ((with_reducible first | refine Kw ?_ ?_ | refine Fw ?_) <;> first | with_reducible rfl | (simp; done)) | (with_reducible first | refine Ka _ ?_ | refine Ks _ (by first | exact Nat.le_refl _ | omega | (simp; done) | (simp; omega)) ?_ | refine Fd ?_ | refine Fn ?_ | refine Fb (by assumption) (by first | exact Nat.le_refl _ | omega | (simp; done) | (simp; omega)) ?_ | refine Fa _ (by first | exact Nat.le_refl _ | omega | (simp; done) | (simp; omega)) ?_ | refine Fs _ ?_)))), (by (repeat' refine And.intro ?_ ?_) <;> (repeat (first | with_reducible assumption | (simp; done) | (with_reducible first | refine Kd ?_ | refine Kn ?_ | refine Kb (by assumption) ?_) | ((with_reducible first | refine Kw ?_ ?_ | refine Fw ?_) <;> first | with_reducible rfl | (simp; done)) | (with_reducible first | refine Ka _ ?_ | refine Ks _ (by first | exact Nat.le_refl _ | omega | (simp; done) | (simp; omega)) ?_ | refine Fd ?_ | refine Fn ?_ | refine Fb (by assumption) (by first | exact Nat.le_refl _ | omega | (simp; done) | (simp; omega)) ?_ | refine Fa _ (by first | exact Nat.le_refl _ | omega | (simp; done) | (simp; omega)) ?_ | refine Fs _ ?_)))), (by (repeat' refine And.intro ?_ ?_) <;> (repeat (first | with_reducible assumption | (simp; done) | (with_reducible first | refine Kd ?_ | refine Kn ?_ | refine Kb (by assumption) ?_) | ((with_reducible first | refine Kw ?_ ?_ | refine Fw ?_) <;> first | with_reducible rfl | (simp; done)) | (with_reducible first | refine Ka _ ?_ | refine Ks _ (by first | exact Nat.le_refl _ | omega | (simp; done) | (simp; omega)) ?_ | refine Fd ?_ | refine Fn ?_ | refine Fb (by assumption) (by first | exact Nat.le_refl _ | omega | (simp; done) | (simp; omega)) ?_ | refine Fa _ (by first | exact Nat.le_refl _ | omega | (simp; done) | (simp; omega)) ?_ | refine Fs _ ?_))))⟩, ⟨(by (repeat' refine And.intro ?_ ?_) <;> (repeat (first | with_reducible assumption | (simp; done) | (with_reducible first | refine Kd ?_ | refine Kn ?_ | refine Kb (by assumption) ?_) | ((with_reducible first | refine Kw ?_ ?_ | refine Fw ?_) <;> first | with_reducible rfl | (simp; done)) | (with_reducible first | refine Ka _ ?_ | refine Ks _ (by first | exact Nat.le_refl _ | omega | (simp; done) | (simp; omega)) ?_ | refine Fd ?_ | refine Fn ?_ | refine Fb (by assumption) (by first | exact Nat.le_refl _ | omega | (simp; done) | (simp; omega)) ?_ | refine Fa _ (by first | exact Nat.le_refl _ | omega | (simp; done) | (simp; omega)) ?_ | refine Fs _ ?_)))), (by (repeat' refine And.intro ?_ ?_) <;> (repeat (first | with_reducible assumption | (simp; done) | (with_reducible first | refine Kd ?_ | refine Kn ?_ | refine Kb (by assumption) ?_) | ((with_reducible first | refine Kw ?_ ?_ | refine Fw ?_) <;> first | with_reducible rfl | (simp; done)) | (with_reducible first | refine Ka _ ?_ | refine Ks _ (by first | exact Nat.le_refl _ | omega | (simp; done) | (simp; omega)) ?_ | refine Fd ?_ | refine Fn ?_ | refine Fb (by assumption) (by first | exact Nat.le_refl _ | omega | (simp; done) | (simp; omega)) ?_ | refine Fa _ (by first | exact Nat.le_refl _ | omega | (simp; done) | (simp; omega)) ?_ | refine Fs _ ?_)))), (by (repeat' refine And.intro ?_ ?_) <;> (repeat (first | with_reducible assumption | (simp; done) | (with_reducible first | refine Kd ?_ | refine Kn ?_ | refine Kb (by assumption) ?_) | ((with_reducible first | refine Kw ?_ ?_ | refine Fw ?_) <;> first | with_reducible rfl | (simp; done)) | (with_reducible first | refine Ka _ ?_ | refine Ks _ (by first | exact Nat.le_refl _ | omega | (simp; done) | (simp; omega)) ?_ | refine Fd ?_ | refine Fn ?_ | refine Fb (by assumption) (by first | exact Nat.le_refl _ | omega | (simp; done) | (simp; omega)) ?_ | refine Fa _ (by first | exact Nat.le_refl _ | omega | (simp; done) | (simp; omega)) ?_ | refine Fs _ ?_)))), (by (repeat' refine And.intro ?_ ?_) <;> (repeat (first | with_reducible assumption | (simp; done) | (with_reducible first | refine Kd ?_ | refine Kn ?_ | refine Kb (by assumption) ?_) | ((with_reducible first | refine Kw ?_ ?_ | refine Fw ?_) <;> first | with_reducible rfl | (simp; done)) | (with_reducible first | refine Ka _ ?_ | refine Ks _ (by first | exact Nat.le_refl _ | omega | (simp; done) | (simp; omega)) ?_ | refine Fd ?_ | refine Fn ?_ | refine Fb (by assumption) (by first | exact Nat.le_refl _ | omega | (simp; done) | (simp; omega)) ?_ | refine Fa _ (by first | exact Nat.le_refl _ | omega | (simp; done) | (simp; omega)) ?_ | refine Fs _ ?_))))⟩, (by repeat (first | (with_reducible first | exact Below.refl _ _ | assumption | refine Below.drew ?_) | ((with_reducible first | refine Lc ?_ ?_ _ | refine Ls ?_ ?_ _ | refine Lv (by assumption) ?_ ?_); · first | exact Nat.le_refl _ | omega | (dsimp only; omega) | (simp only [World.size_alloc, World.size_drew, World.heap_drewN]; omega) | (simp; omega)))), by simp⟩ ?_
  rintro w0 ⟨ha0, hi0, hj0, hb0, hs0⟩
  have HA0 := Lib.hid ha0
  have HI0 := Lib.hid hi0
  have HJ0 := Lib.hid hj0
  have HB0 := Lib.hid hb0
  obtain ⟨c0, c1, c2⟩ := ha0
  clear hi0 hj0 hb0
  go_wp2_with fail
  refine (rcheck_any r bA dA vA bc dc vc _ (H0.out.onW HB0.out)).mono ?_
  rintro e w1 ⟨rfl, hb1⟩
  have HB := Lib.hid (HB0.out.trans (hb1.mono HB0.out.size))
  have HA := Lib.hid (HA0.out.later hb1)
  have HI := Lib.hid (HI0.out.same (hb1.block _ HI0.out.lt))
  have HJ := Lib.hid (HJ0.out.same (hb1.block _ HJ0.out.lt))
  have hs1 : W.heap.size + 3 ≤ w1.heap.size := Nat.le_trans hs0 hb1.size
  clear hb1 c0 c1 c2 HB0 HA0 HI0 HJ0 hs0
  obtain ⟨c0, c1, c2⟩ := HA.out
  by_cases h0 : r.check = 0
  · rw [h0]
    have HCK := Lib.hid h0
    have HOK := Lib.hid (Rw.check_ok.1 h0)
    have hn6 := HOK.out.n6
    clear h0
    cases h1 : inB b 0 ((r.n : Int) - 1) with
    | false =>
      have HR : Hid (r.expR b n X Sp.a = (0, 0) ∧ r.expR b n X Sp.b = (0, 0) ∧ r.expErr b n X = 2) := Lib.hid (by
        have e : r.expErr b n X = 2 := by unfold Rw.expErr; rw [if_neg (by rw [HCK.out]; decide), if_pos (by rw [binsBB, h1]; decide)]
        unfold Rw.expR
        rw [e, if_neg (by decide), if_neg (by decide)]
        exact ⟨rfl, rfl, rfl⟩)
      obtain ⟨i0, i1, i2, i3⟩ := HI.out
      obtain ⟨j0, j1, j2, j3⟩ := HJ.out
      go_wp2_with (go_at_call 89; refine (off_any _ _ _ _).mono ?_; rintro e w' ⟨rfl, rfl⟩)
      refine bodyPost_ret (v := .tuple #[rtV (0, 0), rtV (0, 0), .int .i64 (2)]) (by simp [results, Tryz.results23, go_sem, i0, i1, j0, j1]) rfl ⟨by rw [HR.out.1, HR.out.2.1, HR.out.2.2], ?_⟩
      exact (((HB.out.setCell (by dsimp only; omega) _).setCell (by dsimp only; omega) _).setCell (by dsimp only; omega) _).setCell (by dsimp only; omega) _
    | true =>
      have HB1 : Hid (r.binsErr b b = 0) := Lib.hid (by rw [binsBB, h1]; rfl)
      have hbb := inB_iff.1 h1
      by_cases h3 : n = 3
      · subst h3
        have h33 : (((3 : Nat) : Int) != 3) = false := by decide
        obtain ⟨bn, rfl⟩ := Int.eq_ofNat_of_zero_le hbb.1
        have hbn : bn < r.n := by omega
        have hb0' : (0 : Int) ≤ (bn : Int) := by omega
        have hbn' : (bn : Int) < (r.n : Int) := by omega
        have hg := (HOK.out.b bn hbn).g
        have HG := Lib.hid hg
        have HE0 : Hid (r.expErr (bn : Int) 3 X = if allN (fun k => inB (X k) 0 100) 3 = false then 4 else if sumN X 3 = 0 then 1 else 0) := Lib.hid (by
          unfold Rw.expErr
          rw [if_neg (by rw [HCK.out]; decide), if_neg (by rw [HB1.out]; decide), if_neg (by decide)])
        clear hg hbb
        go_wp2_with (go_at_call 89; refine (off_any _ _ _ _).mono ?_; rintro e w' ⟨rfl, rfl⟩)
        clear c0 c1 c2
        go_loopw [10, 11, 12, 13] (fun vl vh va i wr => ∃ (k : Nat) (l h a : Int), k ≤ 3 ∧ i = .int .i64 k ∧ vl = .int .i64 l ∧ vh = .int .i64 h ∧ va = .int .i64 a ∧ Hid (l = exN (r.B bn) Sp.a X k ∧ h = exN (r.B bn) Sp.b X k ∧ a = sumN X k ∧ ∀ j, j < k → inB (X j) 0 100 = true) ∧ (0 ≤ l ∧ l ≤ 5000 * (k : Int) ∧ 0 ≤ h ∧ h ≤ 5000 * (k : Int) ∧ 0 ≤ a ∧ a ≤ 100 * (k : Int)) ∧ Hid (Below w1.heap.size w1 wr)) (fun _ _ _ i _ => 3 - (intOf i).toNat)
        case atStart => exact ⟨0, 0, 0, 0, by omega, rfl, rfl, rfl, rfl, Lib.hid ⟨rfl, rfl, rfl, fun j hj => by omega⟩, by omega, Lib.hid (Below.refl _ _)⟩
        case round =>
          obtain ⟨k, l, h, a, hk, rfl, rfl, rfl, rfl, HV, hbd, HBk⟩ := hrel
          obtain ⟨wo, rfl⟩ : ∃ wo, wo = wr := ⟨_, rfl⟩
          have HBW := Lib.hid (HB.out.trans (HBk.out.mono (by omega)))
          obtain ⟨c0, c1, c2⟩ := HA.out.later HBk.out
          have hk4 : k = 0 ∨ k = 1 ∨ k = 2 ∨ k = 3 := by omega
          rcases hk4 with rfl | rfl | rfl | rfl
          · have hlt : (((0 : Nat) : Int)) < 3 := by decide
            obtain ⟨g, o, hgA, hgl, x0⟩ := (HC.out.below HBW.out) 0 (by omega)
            subst hgA
            (try rw [Nat.add_zero] at x0)
            cases hin : inB (X 0) 0 100 with
            | false =>
              have HR : Hid (r.expR (bn : Int) 3 X Sp.a = (0, 0) ∧ r.expR (bn : Int) 3 X Sp.b = (0, 0) ∧ r.expErr (bn : Int) 3 X = 4) := Lib.hid (by
                have e : r.expErr (bn : Int) 3 X = 4 := by rw [HE0.out, if_pos (allF (k := 0) (by omega) hin)]
                unfold Rw.expR
                rw [e, if_neg (by decide), if_neg (by decide)]
                exact ⟨rfl, rfl, rfl⟩)
              obtain ⟨i0, i1, i2, i3⟩ := HI.out.same (HBk.out.block _ HI.out.lt)
              obtain ⟨j0, j1, j2, j3⟩ := HJ.out.same (HBk.out.block _ HJ.out.lt)
              go_wp2_with (go_at_call 89; refine (off_any _ _ _ _).mono ?_; rintro e w' ⟨rfl, rfl⟩)
              refine bodyPost_ret (v := .tuple #[rtV (0, 0), rtV (0, 0), .int .i64 4]) (by simp [results, Tryz.results23, go_sem, i0, i1, j0, j1]) rfl ⟨by rw [HR.out.1, HR.out.2.1, HR.out.2.2], ?_⟩
              exact (((HBW.out.setCell (by dsimp only; omega) _).setCell (by dsimp only; omega) _).setCell (by dsimp only; omega) _).setCell (by dsimp only; omega) _
            | true =>
              have hx := inB_iff.1 hin
              have hg := HG.out 0 (by omega)
              obtain ⟨gb, ob, hbA', hbl', d0, d1, d2, d3, d4, d5, d6⟩ := (H0.out.later HBW.out).b bn hbn
              subst hbA'
              obtain ⟨x, hxx⟩ : ∃ x, x = X 0 := ⟨_, rfl⟩
              obtain ⟨p, hp⟩ : ∃ p, p = (r.B bn).lo 0 := ⟨_, rfl⟩
              obtain ⟨q, hq⟩ : ∃ q, q = (r.B bn).hi 0 := ⟨_, rfl⟩
              rw [← hxx] at x0 hin hx
              rw [← hp] at d0 hg
              rw [← hq] at d1 hg
              have hxp1 : 0 ≤ x * p := Int.mul_nonneg hx.1 hg.1
              have hxq1 : 0 ≤ x * q := Int.mul_nonneg hx.1 (by omega)
              have hxp2 : x * p ≤ 5000 := Int.le_trans (Int.mul_le_mul hx.2 (show p ≤ 50 by omega) hg.1 (by decide)) (by decide)
              have hxq2 : x * q ≤ 5000 := Int.le_trans (Int.mul_le_mul hx.2 (show q ≤ 50 by omega) (by omega) (by decide)) (by decide)
              obtain ⟨xp, hxp⟩ : ∃ z, z = x * p := ⟨_, rfl⟩
              obtain ⟨xq, hxq⟩ : ∃ z, z = x * q := ⟨_, rfl⟩
              have HP := Lib.hid (And.intro hxp (And.intro hxq (And.intro hxx (And.intro hp hq))))
              rw [← hxp] at hxp1 hxp2
              rw [← hxq] at hxq1 hxq2
              have m1 : IntKind.i64.wrap (x * p) = xp := by rw [← hxp]; exact IntWalk.i64_in _ (by omega)
              have m2 : IntKind.i64.wrap (x * q) = xq := by rw [← hxq]; exact IntWalk.i64_in _ (by omega)
              have s1 : IntKind.i64.wrap (l + xp) = l + xp := IntWalk.i64_in _ (by omega)
              have s2 : IntKind.i64.wrap (h + xq) = h + xq := IntWalk.i64_in _ (by omega)
              have s3 : IntKind.i64.wrap (a + x) = a + x := IntWalk.i64_in _ (by omega)
              have HIN := Lib.hid hin
              clear hxx hp hq hxp hxq
              go_upto_region 14 with (go_at_call 89; refine (off_any _ _ _ _).mono ?_; rintro e w' ⟨rfl, rfl⟩)
              have y0 := cell_regrown x0
              have y1 := cell_regrown c0
              have y2 := cell_regrown d0
              clear hin
              refine region_qbw (by kernel_rfl) (by kernel_rfl) ?_
              repeat (first | go_big_quiet_step (fail) | quiet_step (fail))
              refine wpQuiet_nil ?_; intro wq hbq
              have x0 := Kb hbq x0
              have c0 := Kb hbq c0
              have d1 := Kb hbq d1
              have HBq := Lib.hid (HBk.out.trans (hbq.mono HBk.out.size))
              clear y0 y1 y2 hbq c1 c2
              go_upto_region 15 with fail
              have y0 := cell_regrown x0
              have y1 := cell_regrown c0
              have y2 := cell_regrown d1
              refine region_qbw (by kernel_rfl) (by kernel_rfl) ?_
              repeat (first | go_big_quiet_step (fail) | quiet_step (fail))
              refine wpQuiet_nil ?_; intro wq2 hbq2
              have x0 := Kb hbq2 x0
              have HBq2 := Lib.hid (HBq.out.trans (hbq2.mono HBq.out.size))
              clear y0 y1 y2 hbq2 c0 d1
              go_wp2_with fail
              refine ⟨?_, ?measure⟩
              case measure => simp [intOf]
              exact ⟨1, l + xp, h + xq, a + x, by omega, by simp, rfl, rfl, rfl, Lib.hid (by
                obtain ⟨v1, v2, v3, v4⟩ := HV.out
                obtain ⟨z1, z2, z3, z4, z5⟩ := HP.out
                refine ⟨?_, ?_, ?_, all_put v4 (by rw [← z3]; exact HIN.out)⟩
                · show _ = exN (r.B bn) Sp.a X 0 + X 0 * (r.B bn).lo 0
                  rw [← v1, z1, z3, z4]
                · show _ = exN (r.B bn) Sp.b X 0 + X 0 * (r.B bn).hi 0
                  rw [← v2, z2, z3, z5]
                · show _ = sumN X 0 + X 0
                  rw [← v3, z3]), by omega, HBq2⟩
          · have hlt : (((1 : Nat) : Int)) < 3 := by decide
            obtain ⟨g, o, hgA, hgl, x0⟩ := (HC.out.below HBW.out) 1 (by omega)
            subst hgA
            (try rw [Nat.add_zero] at x0)
            cases hin : inB (X 1) 0 100 with
            | false =>
              have HR : Hid (r.expR (bn : Int) 3 X Sp.a = (0, 0) ∧ r.expR (bn : Int) 3 X Sp.b = (0, 0) ∧ r.expErr (bn : Int) 3 X = 4) := Lib.hid (by
                have e : r.expErr (bn : Int) 3 X = 4 := by rw [HE0.out, if_pos (allF (k := 1) (by omega) hin)]
                unfold Rw.expR
                rw [e, if_neg (by decide), if_neg (by decide)]
                exact ⟨rfl, rfl, rfl⟩)
              obtain ⟨i0, i1, i2, i3⟩ := HI.out.same (HBk.out.block _ HI.out.lt)
              obtain ⟨j0, j1, j2, j3⟩ := HJ.out.same (HBk.out.block _ HJ.out.lt)
              go_wp2_with (go_at_call 89; refine (off_any _ _ _ _).mono ?_; rintro e w' ⟨rfl, rfl⟩)
              refine bodyPost_ret (v := .tuple #[rtV (0, 0), rtV (0, 0), .int .i64 4]) (by simp [results, Tryz.results23, go_sem, i0, i1, j0, j1]) rfl ⟨by rw [HR.out.1, HR.out.2.1, HR.out.2.2], ?_⟩
              exact (((HBW.out.setCell (by dsimp only; omega) _).setCell (by dsimp only; omega) _).setCell (by dsimp only; omega) _).setCell (by dsimp only; omega) _
            | true =>
              have hx := inB_iff.1 hin
              have hg := HG.out 1 (by omega)
              obtain ⟨gb, ob, hbA', hbl', d0, d1, d2, d3, d4, d5, d6⟩ := (H0.out.later HBW.out).b bn hbn
              subst hbA'
              obtain ⟨x, hxx⟩ : ∃ x, x = X 1 := ⟨_, rfl⟩
              obtain ⟨p, hp⟩ : ∃ p, p = (r.B bn).lo 1 := ⟨_, rfl⟩
              obtain ⟨q, hq⟩ : ∃ q, q = (r.B bn).hi 1 := ⟨_, rfl⟩
              rw [← hxx] at x0 hin hx
              rw [← hp] at d2 hg
              rw [← hq] at d3 hg
              have hxp1 : 0 ≤ x * p := Int.mul_nonneg hx.1 hg.1
              have hxq1 : 0 ≤ x * q := Int.mul_nonneg hx.1 (by omega)
              have hxp2 : x * p ≤ 5000 := Int.le_trans (Int.mul_le_mul hx.2 (show p ≤ 50 by omega) hg.1 (by decide)) (by decide)
              have hxq2 : x * q ≤ 5000 := Int.le_trans (Int.mul_le_mul hx.2 (show q ≤ 50 by omega) (by omega) (by decide)) (by decide)
              obtain ⟨xp, hxp⟩ : ∃ z, z = x * p := ⟨_, rfl⟩
              obtain ⟨xq, hxq⟩ : ∃ z, z = x * q := ⟨_, rfl⟩
              have HP := Lib.hid (And.intro hxp (And.intro hxq (And.intro hxx (And.intro hp hq))))
              rw [← hxp] at hxp1 hxp2
              rw [← hxq] at hxq1 hxq2
              have m1 : IntKind.i64.wrap (x * p) = xp := by rw [← hxp]; exact IntWalk.i64_in _ (by omega)
              have m2 : IntKind.i64.wrap (x * q) = xq := by rw [← hxq]; exact IntWalk.i64_in _ (by omega)
              have s1 : IntKind.i64.wrap (l + xp) = l + xp := IntWalk.i64_in _ (by omega)
              have s2 : IntKind.i64.wrap (h + xq) = h + xq := IntWalk.i64_in _ (by omega)
              have s3 : IntKind.i64.wrap (a + x) = a + x := IntWalk.i64_in _ (by omega)
              have HIN := Lib.hid hin
              clear hxx hp hq hxp hxq
              go_upto_region 14 with (go_at_call 89; refine (off_any _ _ _ _).mono ?_; rintro e w' ⟨rfl, rfl⟩)
              have y0 := cell_regrown x0
              have y1 := cell_regrown c0
              have y2 := cell_regrown d2
              clear hin
              refine region_qbw (by kernel_rfl) (by kernel_rfl) ?_
              repeat (first | go_big_quiet_step (fail) | quiet_step (fail))
              refine wpQuiet_nil ?_; intro wq hbq
              have x0 := Kb hbq x0
              have c0 := Kb hbq c0
              have d3 := Kb hbq d3
              have HBq := Lib.hid (HBk.out.trans (hbq.mono HBk.out.size))
              clear y0 y1 y2 hbq c1 c2
              go_upto_region 15 with fail
              have y0 := cell_regrown x0
              have y1 := cell_regrown c0
              have y2 := cell_regrown d3
              refine region_qbw (by kernel_rfl) (by kernel_rfl) ?_
              repeat (first | go_big_quiet_step (fail) | quiet_step (fail))
              refine wpQuiet_nil ?_; intro wq2 hbq2
              have x0 := Kb hbq2 x0
              have HBq2 := Lib.hid (HBq.out.trans (hbq2.mono HBq.out.size))
              clear y0 y1 y2 hbq2 c0 d3
              go_wp2_with fail
              refine ⟨?_, ?measure⟩
              case measure => simp [intOf]
              exact ⟨2, l + xp, h + xq, a + x, by omega, by simp, rfl, rfl, rfl, Lib.hid (by
                obtain ⟨v1, v2, v3, v4⟩ := HV.out
                obtain ⟨z1, z2, z3, z4, z5⟩ := HP.out
                refine ⟨?_, ?_, ?_, all_put v4 (by rw [← z3]; exact HIN.out)⟩
                · show _ = exN (r.B bn) Sp.a X 1 + X 1 * (r.B bn).lo 1
                  rw [← v1, z1, z3, z4]
                · show _ = exN (r.B bn) Sp.b X 1 + X 1 * (r.B bn).hi 1
                  rw [← v2, z2, z3, z5]
                · show _ = sumN X 1 + X 1
                  rw [← v3, z3]), by omega, HBq2⟩
          · have hlt : (((2 : Nat) : Int)) < 3 := by decide
            obtain ⟨g, o, hgA, hgl, x0⟩ := (HC.out.below HBW.out) 2 (by omega)
            subst hgA
            (try rw [Nat.add_zero] at x0)
            cases hin : inB (X 2) 0 100 with
            | false =>
              have HR : Hid (r.expR (bn : Int) 3 X Sp.a = (0, 0) ∧ r.expR (bn : Int) 3 X Sp.b = (0, 0) ∧ r.expErr (bn : Int) 3 X = 4) := Lib.hid (by
                have e : r.expErr (bn : Int) 3 X = 4 := by rw [HE0.out, if_pos (allF (k := 2) (by omega) hin)]
                unfold Rw.expR
                rw [e, if_neg (by decide), if_neg (by decide)]
                exact ⟨rfl, rfl, rfl⟩)
              obtain ⟨i0, i1, i2, i3⟩ := HI.out.same (HBk.out.block _ HI.out.lt)
              obtain ⟨j0, j1, j2, j3⟩ := HJ.out.same (HBk.out.block _ HJ.out.lt)
              go_wp2_with (go_at_call 89; refine (off_any _ _ _ _).mono ?_; rintro e w' ⟨rfl, rfl⟩)
              refine bodyPost_ret (v := .tuple #[rtV (0, 0), rtV (0, 0), .int .i64 4]) (by simp [results, Tryz.results23, go_sem, i0, i1, j0, j1]) rfl ⟨by rw [HR.out.1, HR.out.2.1, HR.out.2.2], ?_⟩
              exact (((HBW.out.setCell (by dsimp only; omega) _).setCell (by dsimp only; omega) _).setCell (by dsimp only; omega) _).setCell (by dsimp only; omega) _
            | true =>
              have hx := inB_iff.1 hin
              have hg := HG.out 2 (by omega)
              obtain ⟨gb, ob, hbA', hbl', d0, d1, d2, d3, d4, d5, d6⟩ := (H0.out.later HBW.out).b bn hbn
              subst hbA'
              obtain ⟨x, hxx⟩ : ∃ x, x = X 2 := ⟨_, rfl⟩
              obtain ⟨p, hp⟩ : ∃ p, p = (r.B bn).lo 2 := ⟨_, rfl⟩
              obtain ⟨q, hq⟩ : ∃ q, q = (r.B bn).hi 2 := ⟨_, rfl⟩
              rw [← hxx] at x0 hin hx
              rw [← hp] at d4 hg
              rw [← hq] at d5 hg
              have hxp1 : 0 ≤ x * p := Int.mul_nonneg hx.1 hg.1
              have hxq1 : 0 ≤ x * q := Int.mul_nonneg hx.1 (by omega)
              have hxp2 : x * p ≤ 5000 := Int.le_trans (Int.mul_le_mul hx.2 (show p ≤ 50 by omega) hg.1 (by decide)) (by decide)
              have hxq2 : x * q ≤ 5000 := Int.le_trans (Int.mul_le_mul hx.2 (show q ≤ 50 by omega) (by omega) (by decide)) (by decide)
              obtain ⟨xp, hxp⟩ : ∃ z, z = x * p := ⟨_, rfl⟩
              obtain ⟨xq, hxq⟩ : ∃ z, z = x * q := ⟨_, rfl⟩
              have HP := Lib.hid (And.intro hxp (And.intro hxq (And.intro hxx (And.intro hp hq))))
              rw [← hxp] at hxp1 hxp2
              rw [← hxq] at hxq1 hxq2
              have m1 : IntKind.i64.wrap (x * p) = xp := by rw [← hxp]; exact IntWalk.i64_in _ (by omega)
              have m2 : IntKind.i64.wrap (x * q) = xq := by rw [← hxq]; exact IntWalk.i64_in _ (by omega)
              have s1 : IntKind.i64.wrap (l + xp) = l + xp := IntWalk.i64_in _ (by omega)
              have s2 : IntKind.i64.wrap (h + xq) = h + xq := IntWalk.i64_in _ (by omega)
              have s3 : IntKind.i64.wrap (a + x) = a + x := IntWalk.i64_in _ (by omega)
              have HIN := Lib.hid hin
              clear hxx hp hq hxp hxq
              go_upto_region 14 with (go_at_call 89; refine (off_any _ _ _ _).mono ?_; rintro e w' ⟨rfl, rfl⟩)
              have y0 := cell_regrown x0
              have y1 := cell_regrown c0
              have y2 := cell_regrown d4
              clear hin
              refine region_qbw (by kernel_rfl) (by kernel_rfl) ?_
              repeat (first | go_big_quiet_step (fail) | quiet_step (fail))
              refine wpQuiet_nil ?_; intro wq hbq
              have x0 := Kb hbq x0
              have c0 := Kb hbq c0
              have d5 := Kb hbq d5
              have HBq := Lib.hid (HBk.out.trans (hbq.mono HBk.out.size))
              clear y0 y1 y2 hbq c1 c2
              go_upto_region 15 with fail
              have y0 := cell_regrown x0
              have y1 := cell_regrown c0
              have y2 := cell_regrown d5
              refine region_qbw (by kernel_rfl) (by kernel_rfl) ?_
              repeat (first | go_big_quiet_step (fail) | quiet_step (fail))
              refine wpQuiet_nil ?_; intro wq2 hbq2
              have x0 := Kb hbq2 x0
              have HBq2 := Lib.hid (HBq.out.trans (hbq2.mono HBq.out.size))
              clear y0 y1 y2 hbq2 c0 d5
              go_wp2_with fail
              refine ⟨?_, ?measure⟩
              case measure => simp [intOf]
              exact ⟨3, l + xp, h + xq, a + x, by omega, by simp, rfl, rfl, rfl, Lib.hid (by
                obtain ⟨v1, v2, v3, v4⟩ := HV.out
                obtain ⟨z1, z2, z3, z4, z5⟩ := HP.out
                refine ⟨?_, ?_, ?_, all_put v4 (by rw [← z3]; exact HIN.out)⟩
                · show _ = exN (r.B bn) Sp.a X 2 + X 2 * (r.B bn).lo 2
                  rw [← v1, z1, z3, z4]
                · show _ = exN (r.B bn) Sp.b X 2 + X 2 * (r.B bn).hi 2
                  rw [← v2, z2, z3, z5]
                · show _ = sumN X 2 + X 2
                  rw [← v3, z3]), by omega, HBq2⟩
          · have hge : ¬ ((3 : Nat) : Int) < 3 := by decide
            obtain ⟨i0, i1, i2, i3⟩ := HI.out.same (HBk.out.block _ HI.out.lt)
            obtain ⟨j0, j1, j2, j3⟩ := HJ.out.same (HBk.out.block _ HJ.out.lt)
            have hall : allN (fun k => inB (X k) 0 100) 3 = true := allN_iff.2 HV.out.2.2.2
            by_cases ha0 : a = 0
            · have ga : (a == 0) = true := by rw [beq_iff_eq]; exact ha0
              have HR : Hid (r.expR (bn : Int) 3 X Sp.a = (0, 0) ∧ r.expR (bn : Int) 3 X Sp.b = (0, 0) ∧ r.expErr (bn : Int) 3 X = 1) := Lib.hid (by
                have e : r.expErr (bn : Int) 3 X = 1 := by rw [HE0.out, hall, if_neg (by decide), if_pos (by rw [← HV.out.2.2.1]; exact ha0)]
                unfold Rw.expR
                rw [e, if_neg (by decide), if_neg (by decide)]
                exact ⟨rfl, rfl, rfl⟩)
              clear ha0 hall
              go_wp2_with fail
              refine bodyPost_ret (v := .tuple #[rtV (0, 0), rtV (0, 0), .int .i64 1]) (by simp [results, Tryz.results23, go_sem, i0, i1, j0, j1]) rfl ⟨by rw [HR.out.1, HR.out.2.1, HR.out.2.2], ?_⟩
              exact (((HBW.out.setCell (by dsimp only; omega) _).setCell (by dsimp only; omega) _).setCell (by dsimp only; omega) _).setCell (by dsimp only; omega) _
            · have ga : (a == 0) = false := by rw [beq_eq_false_iff_ne]; exact ha0
              have HE : Hid (r.expErr (bn : Int) 3 X = 0) := Lib.hid (by rw [HE0.out, hall, if_neg (by decide), if_neg (by rw [← HV.out.2.2.1]; exact ha0)])
              obtain ⟨ln, hl⟩ := Int.eq_ofNat_of_zero_le hbd.1
              obtain ⟨hn', hh⟩ := Int.eq_ofNat_of_zero_le hbd.2.2.1
              obtain ⟨an, haa⟩ := Int.eq_ofNat_of_zero_le hbd.2.2.2.2.1
              have hbn3 : ln ≤ 15000 ∧ hn' ≤ 15000 ∧ an ≤ 300 ∧ 0 < an := by omega
              have HR1 : Hid (rtV (r.expR (bn : Int) 3 X Sp.a) = ratV ln an) := Lib.hid (by
                unfold Rw.expR
                rw [HE.out, if_pos rfl, Int.toNat_natCast, ← HV.out.1, ← HV.out.2.2.1, hl, haa, Int.toNat_natCast, Int.toNat_natCast]
                rfl)
              have HR2 : Hid (rtV (r.expR (bn : Int) 3 X Sp.b) = ratV hn' an) := Lib.hid (by
                unfold Rw.expR
                rw [HE.out, if_pos rfl, Int.toNat_natCast, ← HV.out.2.1, ← HV.out.2.2.1, hh, haa, Int.toNat_natCast, Int.toNat_natCast]
                rfl)
              have HI2 := Lib.hid (show I2 wo (W.heap.size + 1) 0 0 from ⟨i0, i1, i2, i3⟩)
              have HJ2 := Lib.hid (show I2 wo (W.heap.size + 2) 0 0 from ⟨j0, j1, j2, j3⟩)
              clear ha0 hall HV hbd i0 i1 i2 i3 j0 j1 j2 j3 c0 c1 c2
              subst hl hh haa
              go_wp2_with fail
              refine (rratio_any ln an (by omega) (by omega) (by omega) _).mono ?_
              rintro e w5 ⟨rfl, hb5⟩
              have HB5 := Lib.hid (HBW.out.trans (hb5.mono HBW.out.size))
              have HI5 := Lib.hid (HI2.out.same (hb5.block _ HI2.out.lt))
              have HJ5 := Lib.hid (HJ2.out.same (hb5.block _ HJ2.out.lt))
              clear hb5 HI2 HJ2
              go_wp2_with fail
              refine (rratio_any hn' an (by omega) (by omega) (by omega) _).mono ?_
              rintro e w6 ⟨rfl, hb6⟩
              have HB6 := Lib.hid (HB5.out.trans (hb6.mono HB5.out.size))
              obtain ⟨i0, i1, i2, i3⟩ := HI5.out.same (hb6.block _ HI5.out.lt)
              obtain ⟨j0, j1, j2, j3⟩ := HJ5.out.same (hb6.block _ HJ5.out.lt)
              clear hb6 HI5 HJ5
              go_wp2_with fail
              refine bodyPost_ret (v := .tuple #[ratV ln an, ratV hn' an, .int .i64 0]) (by simp [results, Tryz.results23, go_sem, i0, i1, j0, j1]) rfl ⟨by rw [HR1.out, HR2.out, HE.out], ?_⟩
              exact (((HB6.out.setCell (by dsimp only; omega) _).setCell (by dsimp only; omega) _).setCell (by dsimp only; omega) _).setCell (by dsimp only; omega) _
      · have g3 : ((n : Int) != 3) = true := by rw [bne_iff_ne]; omega
        have HR : Hid (r.expR b n X Sp.a = (0, 0) ∧ r.expR b n X Sp.b = (0, 0) ∧ r.expErr b n X = 3) := Lib.hid (by
          have e : r.expErr b n X = 3 := by unfold Rw.expErr; rw [if_neg (by rw [HCK.out]; decide), if_neg (by rw [HB1.out]; decide), if_pos h3]
          unfold Rw.expR
          rw [e, if_neg (by decide), if_neg (by decide)]
          exact ⟨rfl, rfl, rfl⟩)
        obtain ⟨i0, i1, i2, i3⟩ := HI.out
        obtain ⟨j0, j1, j2, j3⟩ := HJ.out
        clear h3
        go_wp2_with (go_at_call 89; refine (off_any _ _ _ _).mono ?_; rintro e w' ⟨rfl, rfl⟩)
        refine bodyPost_ret (v := .tuple #[rtV (0, 0), rtV (0, 0), .int .i64 (3)]) (by simp [results, Tryz.results23, go_sem, i0, i1, j0, j1]) rfl ⟨by rw [HR.out.1, HR.out.2.1, HR.out.2.2], ?_⟩
        exact (((HB.out.setCell (by dsimp only; omega) _).setCell (by dsimp only; omega) _).setCell (by dsimp only; omega) _).setCell (by dsimp only; omega) _
  · have hne : (r.check != 0) = true := by simpa using h0
    have HR : Hid (r.expR b n X Sp.a = (0, 0) ∧ r.expR b n X Sp.b = (0, 0) ∧ r.expErr b n X = r.check) := Lib.hid (by
      have e : r.expErr b n X = r.check := by unfold Rw.expErr; rw [if_pos h0]
      unfold Rw.expR
      rw [e, if_neg (by exact h0), if_neg (by exact h0)]
      exact ⟨rfl, rfl, rfl⟩)
    obtain ⟨i0, i1, i2, i3⟩ := HI.out
    obtain ⟨j0, j1, j2, j3⟩ := HJ.out
    clear h0
    go_wp2_with fail
    refine bodyPost_ret (v := .tuple #[rtV (0, 0), rtV (0, 0), .int .i64 (r.check)]) (by simp [results, Tryz.results23, go_sem, i0, i1, j0, j1]) rfl ⟨by rw [HR.out.1, HR.out.2.1, HR.out.2.2], ?_⟩
    exact (((HB.out.setCell (by dsimp only; omega) _).setCell (by dsimp only; omega) _).setCell (by dsimp only; omega) _).setCell (by dsimp only; omega) _
end Go.Proofs.YtnnikeolgknfoaaGreat

set_option linter.unusedSimpArgs false
set_option linter.unusedVariables false
namespace Go.Proofs.YtnnikeolgknfoaaGreat
open Go.RowKit Go.Shelf

/-- the least number of days, sought from the last one -/
def duN (z y mo : Int) : Nat → Int
  | 0 => -1
  | c + 1 => if mo < z + ((100 - c : Nat) : Int) * y then ((100 - c : Nat) : Int) else duN z y mo c
theorem duN_un (z y mo : Int) : ∀ j, j ≤ 101 → (∀ n, untilN z y mo j = some n → duN z y mo 101 = (n : Int)) ∧ (untilN z y mo j = none → duN z y mo 101 = duN z y mo (101 - j))
  | 0, _ => ⟨fun n h => (by cases h), fun _ => rfl⟩
  | j + 1, hj => by
    obtain ⟨h1, h2⟩ := duN_un z y mo j (by omega)
    cases hu : untilN z y mo j with
    | some n =>
      refine ⟨fun m hm => ?_, fun hm => ?_⟩
      · unfold untilN at hm
        rw [hu] at hm
        injection hm with hm
        rw [← hm]
        exact h1 n hu
      · unfold untilN at hm
        rw [hu] at hm
        cases hm
    | none =>
      have e := h2 hu
      have e2 : duN z y mo (101 - j) = if mo < z + (j : Int) * y then (j : Int) else duN z y mo (101 - (j + 1)) := by
        rw [show 101 - j = (100 - j) + 1 by omega]
        show (if mo < z + ((100 - (100 - j) : Nat) : Int) * y then ((100 - (100 - j) : Nat) : Int) else duN z y mo (100 - j)) = _
        rw [show 100 - (100 - j) = j by omega, show 101 - (j + 1) = 100 - j by omega]
      refine ⟨fun m hm => ?_, fun hm => ?_⟩
      · unfold untilN at hm
        rw [hu] at hm
        dsimp only at hm
        split at hm
        · rename_i hc
          injection hm with hm
          rw [e, e2, if_pos hc, hm]
        · cases hm
      · unfold untilN at hm
        rw [hu] at hm
        dsimp only at hm
        split at hm
        · cases hm
        · rename_i hc
          rw [e, e2, if_neg hc]
theorem duN_all (z y mo : Int) : duN z y mo 101 = untilR z y mo := by
  obtain ⟨h1, h2⟩ := duN_un z y mo 101 (Nat.le_refl _)
  unfold untilR
  cases hu : untilN z y mo 101 with
  | some n => exact h1 n hu
  | none => exact h2 hu
theorem I2.set0 {w : World} {b : Nat} {x y : Int} (h : I2 w b x y) (p : Int) : I2 (w.setCell ⟨b, 0, none⟩ (.int .i64 p)) b p y := by
  obtain ⟨c0, c1, f0, f1⟩ := h
  exact ⟨by simp [go_sem, c0, c1], by simp [go_sem, c0, c1], Fs _ f0, Fs _ f1⟩
theorem I2.set1 {w : World} {b : Nat} {x y : Int} (h : I2 w b x y) (p : Int) : I2 (w.setCell ⟨b, 1, none⟩ (.int .i64 p)) b x p := by
  obtain ⟨c0, c1, f0, f1⟩ := h
  exact ⟨by simp [go_sem, c0, c1], by simp [go_sem, c0, c1], Fs _ f0, Fs _ f1⟩
/-- Until's boxes -/
structure UbAt (W w : World) (r : Rw) (bA : Option Addr) (bc : Nat) (dA : Option Addr) (dc : Nat) (vA : Option Addr) (vc : Nat) (sb ob : Nat) (s : Sp) (x y : Int) : Prop where
  a : RwAt w W.heap.size r bA bc dA dc vA vc
  i : I2 w (W.heap.size + 1) 0 0
  s : I2 w sb s.a s.b
  o : I2 w ob x y
  l : Below W.heap.size W w
  h : W.heap.size + 1 < sb ∧ sb < ob
theorem UbAt.later {W w w' : World} {r : Rw} {bA : Option Addr} {bc : Nat} {dA : Option Addr} {dc : Nat} {vA : Option Addr} {vc : Nat} {sb ob : Nat} {s : Sp} {x y : Int} (h : UbAt W w r bA bc dA dc vA vc sb ob s x y) (hb : Below w.heap.size w w') : UbAt W w' r bA bc dA dc vA vc sb ob s x y :=
  ⟨h.a.later hb, h.i.same (hb.block _ h.i.lt), h.s.same (hb.block _ h.s.lt), h.o.same (hb.block _ h.o.lt), h.l.trans (hb.mono h.l.size), h.h⟩
theorem UbAt.put0 {W w : World} {r : Rw} {bA : Option Addr} {bc : Nat} {dA : Option Addr} {dc : Nat} {vA : Option Addr} {vc : Nat} {sb ob : Nat} {s : Sp} {x y : Int} (h : UbAt W w r bA bc dA dc vA vc sb ob s x y) (p : Int) : UbAt W (w.setCell ⟨ob, 0, none⟩ (.int .i64 p)) r bA bc dA dc vA vc sb ob s p y := by
  have hh := h.h
  exact ⟨h.a.same (set_heap _ (by dsimp only; omega)), h.i.same (set_heap _ (by dsimp only; omega)), h.s.same (set_heap _ (by dsimp only; omega)), h.o.set0 p, h.l.setCell (by dsimp only; omega) _, hh⟩
theorem UbAt.put1 {W w : World} {r : Rw} {bA : Option Addr} {bc : Nat} {dA : Option Addr} {dc : Nat} {vA : Option Addr} {vc : Nat} {sb ob : Nat} {s : Sp} {x y : Int} (h : UbAt W w r bA bc dA dc vA vc sb ob s x y) (p : Int) : UbAt W (w.setCell ⟨ob, 1, none⟩ (.int .i64 p)) r bA bc dA dc vA vc sb ob s x p := by
  have hh := h.h
  exact ⟨h.a.same (set_heap _ (by dsimp only; omega)), h.i.same (set_heap _ (by dsimp only; omega)), h.s.same (set_heap _ (by dsimp only; omega)), h.o.set1 p, h.l.setCell (by dsimp only; omega) _, hh⟩

set_option maxRecDepth 100000 in
set_option maxHeartbeats 8000000 in
theorem rUntil_any (r : Rw) (b k mo : Int) (bA dA vA : Option Addr) (bc dc vc : Nat) (W : World) (hrow : RwRow W W.heap.size r bA bc dA dc vA vc) :
    Calls Tryz.prog 25 #[rwV bA r.n bc dA r.d dc vA r.m vc, .int .i64 b, .int .i64 k, .int .i64 mo] W fun e W' => e = .returned (.tuple #[spV (r.untilS b k mo), .int .i64 (r.untilErr b k mo)]) ∧ Below W.heap.size W W' := by
  have H0 := Lib.hid hrow
  have hn1 := hrow.n1
  have en1 : IntKind.i64.wrap ((r.n : Int) - 1) = (r.n : Int) - 1 := IntWalk.i64_in _ (by omega)
  clear hrow
  go_enter Tryz.func25, Tryz.ntmps25
  go_upto_region 1 with fail
  refine wp_world (fun w' => RwAt w' W.heap.size r bA bc dA dc vA vc ∧ I2 w' (W.heap.size + 1) 0 0 ∧ Below W.heap.size W w' ∧ W.heap.size + 2 ≤ w'.heap.size) ⟨⟨(by (repeat' refine And.intro ?_ ?_) <;> (repeat (first | with_reducible assumption | (simp; done) | (with_reducible first | refine Kd ?_ | refine Kn ?_ | refine Kb (by assumption) ?_) | ((with_reducible first | refine Kw ?_ ?_ | refine Fw ?_) <;> first | with_reducible rfl | (simp; done)) | (with_reducible first | refine Ka _ ?_ | refine Ks _ (by first | exact Nat.le_refl _ | omega | (simp; done) | (simp; omega)) ?_ | refine Fd ?_ | refine Fn ?_ | refine Fb (by assumption) (by first | exact Nat.le_refl _ | omega | (simp; done) | (simp; omega)) ?_ | refine Fa _ (by first | exact Nat.le_refl _ | omega | (simp; done) | (simp; omega)) ?_ | refine Fs _ ?_)))), (by (repeat' refine And.intro ?_ ?_) <;> (repeat (first | with_reducible assumption | (simp; done) | (with_reducible first | refine Kd ?_ | refine Kn ?_ | refine Kb (by assumption) ?_) | ((with_reducible first | refine Kw ?_ ?_ | refine Fw ?_) <;> first | with_reducible rfl | (simp; done)) | (with_reducible first | refine Ka _ ?_ | refine Ks _ (by first | exact Nat.le_refl _ | omega | (simp; done) | (simp; omega)) ?_ | refine Fd ?_ | refine Fn ?_ | refine Fb (by assumption) (by first | exact Nat.le_refl _ | omega | (simp; done) | (simp; omega)) ?_ | refine Fa _ (by first | exact Nat.le_refl _ | omega | (simp; done) | (simp; omega)) ?_ | refine Fs _ ?_)))), (by (repeat' refine And.intro ?_ ?_) <;> (repeat (first | with_reducible assumption | (simp; done) | (with_reducible first | refine Kd ?_ | refine Kn ?_ | refine Kb (by assumption) ?_) | ((with_reducible first | refine Kw ?_ ?_ | refine Fw ?_) <;> first | with_reducible rfl | (simp; done)) | (with_reducible first | refine Ka _ ?_ | refine Ks _ (by first | exact Nat.le_refl _ | omega | (simp; done) | (simp; omega)) ?_ | refine Fd ?_ | refine Fn ?_ | refine Fb (by assumption) (by first | exact Nat.le_refl _ | omega | (simp; done) | (simp; omega)) ?_ | refine Fa _ (by first | exact Nat.le_refl _ | omega | (simp; done) | (simp; omega)) ?_ | refine Fs _ ?_))))⟩, ⟨(by (repeat' refine And.intro ?_ ?_) <;> (repeat (first | with_reducible assumption | (simp; done) | (with_reducible first | refine Kd ?_ | refine Kn ?_ | refine Kb (by assumption) ?_) | ((with_reducible first | refine Kw ?_ ?_ | refine Fw ?_) <;> first | with_reducible rfl | (simp; done)) | (with_reducible first | refine Ka _ ?_ | refine Ks _ (by first | exact Nat.le_refl _ | omega | (simp; done) | (simp; omega)) ?_ | refine Fd ?_ | refine Fn ?_ | refine Fb (by assumption) (by first | exact Nat.le_refl _ | omega | (simp; done) | (simp; omega)) ?_ | refine Fa _ (by first | exact Nat.le_refl _ | omega | (simp; done) | (simp; omega)) ?_ | refine Fs _ ?_)))), (by (repeat' refine And.intro ?_ ?_) <;> (repeat (first | with_reducible assumption | (simp; done) | (with_reducible first | refine Kd ?_ | refine Kn ?_ | refine Kb (by assumption) ?_) | ((with_reducible first | refine Kw ?_ ?_ | refine Fw ?_) <;> first | with_reducible rfl | (simp; done)) | (with_reducible first | refine Ka _ ?_ | refine Ks _ (by first | exact Nat.le_refl _ | omega | (simp; done) | (simp; omega)) ?_ | refine Fd ?_ | refine Fn ?_ | refine Fb (by assumption) (by first | exact Nat.le_refl _ | omega | (simp; done) | (simp; omega)) ?_ | refine Fa _ (by first | exact Nat.le_refl _ | omega | (simp; done) | (simp; omega)) ?_ | refine Fs _ ?_)))), (by (repeat' refine And.intro ?_ ?_) <;> (repeat (first | with_reducible assumption | (simp; done) | (with_reducible first | refine Kd ?_ | refine Kn ?_ | refine Kb (by assumption) ?_) | ((with_reducible first | refine Kw ?_ ?_ | refine Fw ?_) <;> first | with_reducible rfl | (simp; done)) | (with_reducible first | refine Ka _ ?_ | refine Ks _ (by first | exact Nat.le_refl _ | omega | (simp; done) | (simp; omega)) ?_ | refine Fd ?_ | refine Fn ?_ | refine Fb (by assumption) (by first | exact Nat.le_refl _ | omega | (simp; done) | (simp; omega)) ?_ | refine Fa _ (by first | exact Nat.le_refl _ | omega | (simp; done) | (simp; omega)) ?_ | refine Fs _ ?_)))), (by (repeat' refine And.intro ?_ ?_) <;> (repeat (first | with_reducible assumption | (simp; done) | (with_reducible first | refine Kd ?_ | refine Kn ?_ | refine Kb (by assumption) ?_) | ((with_reducible first | refine Kw ?_ ?_ | refine Fw ?_) <;> first | with_reducible rfl | (simp; done)) | (with_reducible first | refine Ka _ ?_ | refine Ks _ (by first | exact Nat.le_refl _ | omega | (simp; done) | (simp; omega)) ?_ | refine Fd ?_ | refine Fn ?_ | refine Fb (by assumption) (by first | exact Nat.le_refl _ | omega | (simp; done) | (simp; omega)) ?_ | refine Fa _ (by first | exact Nat.le_refl _ | omega | (simp; done) | (simp; omega)) ?_ | refine Fs _ ?_))))⟩, (by repeat (first | (with_reducible first | exact Below.refl _ _ | assumption | refine Below.drew ?_) | ((with_reducible first | refine Lc ?_ ?_ _ | refine Ls ?_ ?_ _ | refine Lv (by assumption) ?_ ?_); · first | exact Nat.le_refl _ | omega | (dsimp only; omega) | (simp only [World.size_alloc, World.size_drew, World.heap_drewN]; omega) | (simp; omega)))), by simp⟩ ?_
  rintro w0 ⟨ha0, hi0, hb0, hs0⟩
  have HA0 := Lib.hid ha0
  have HI0 := Lib.hid hi0
  have HB0 := Lib.hid hb0
  obtain ⟨c0, c1, c2⟩ := ha0
  clear hi0 hb0
  go_wp2_with fail
  refine (rcheck_any r bA dA vA bc dc vc _ (H0.out.onW HB0.out)).mono ?_
  rintro e w1 ⟨rfl, hb1⟩
  have HB := Lib.hid (HB0.out.trans (hb1.mono HB0.out.size))
  have HA := Lib.hid (HA0.out.later hb1)
  have HI := Lib.hid (HI0.out.same (hb1.block _ HI0.out.lt))
  have hs1 : W.heap.size + 2 ≤ w1.heap.size := Nat.le_trans hs0 hb1.size
  clear hb1 c0 c1 c2 HB0 HA0 HI0 hs0
  obtain ⟨c0, c1, c2⟩ := HA.out
  by_cases h0 : r.check = 0
  · rw [h0]
    have HCK := Lib.hid h0
    have HOK := Lib.hid (Rw.check_ok.1 h0)
    have hn6 := HOK.out.n6
    clear h0
    cases h1 : inB b 0 ((r.n : Int) - 1) with
    | false =>
      have HR : Hid (r.untilS b k mo = ⟨0, 0⟩ ∧ r.untilErr b k mo = 2) := Lib.hid (by
        have e : r.untilErr b k mo = 2 := by unfold Rw.untilErr; rw [if_neg (by rw [HCK.out]; decide), if_pos (.inl (by rw [binsBB, h1]; decide))]
        refine ⟨?_, e⟩
        unfold Rw.untilS
        rw [e, if_neg (by decide)])
      obtain ⟨i0, i1, i2, i3⟩ := HI.out
      go_wp2_with (go_at_call 89; refine (off_any _ _ _ _).mono ?_; rintro e w' ⟨rfl, rfl⟩)
      refine bodyPost_ret (v := .tuple #[.agg #[.int .i64 0, .int .i64 0], .int .i64 (2)]) (by simp [results, Tryz.results25, go_sem, i0, i1]) rfl ⟨by rw [HR.out.1, HR.out.2], ?_⟩
      exact (HB.out.setCell (by dsimp only; omega) _).setCell (by dsimp only; omega) _
    | true =>
      cases h2 : inB k 0 2 with
      | false =>
        have HR : Hid (r.untilS b k mo = ⟨0, 0⟩ ∧ r.untilErr b k mo = 2) := Lib.hid (by
          have e : r.untilErr b k mo = 2 := by unfold Rw.untilErr; rw [if_neg (by rw [HCK.out]; decide), if_pos (.inr h2)]
          refine ⟨?_, e⟩
          unfold Rw.untilS
          rw [e, if_neg (by decide)])
        obtain ⟨i0, i1, i2, i3⟩ := HI.out
        go_wp2_with (go_at_call 89; refine (off_any _ _ _ _).mono ?_; rintro e w' ⟨rfl, rfl⟩)
        refine bodyPost_ret (v := .tuple #[.agg #[.int .i64 0, .int .i64 0], .int .i64 (2)]) (by simp [results, Tryz.results25, go_sem, i0, i1]) rfl ⟨by rw [HR.out.1, HR.out.2], ?_⟩
        exact (HB.out.setCell (by dsimp only; omega) _).setCell (by dsimp only; omega) _
      | true =>
        have HB1 : Hid (r.binsErr b b = 0) := Lib.hid (by rw [binsBB, h1]; rfl)
        have HN : Hid (¬ (r.binsErr b b ≠ 0 ∨ inB k 0 2 = false)) := Lib.hid (by rw [HB1.out, h2]; simp)
        cases h3 : inB mo 0 3000 with
        | false =>
          have HR : Hid (r.untilS b k mo = ⟨0, 0⟩ ∧ r.untilErr b k mo = 4) := Lib.hid (by
            have e : r.untilErr b k mo = 4 := by unfold Rw.untilErr; rw [if_neg (by rw [HCK.out]; decide), if_neg HN.out, if_pos h3]
            refine ⟨?_, e⟩
            unfold Rw.untilS
            rw [e, if_neg (by decide)])
          obtain ⟨i0, i1, i2, i3⟩ := HI.out
          go_wp2_with (go_at_call 89; refine (off_any _ _ _ _).mono ?_; rintro e w' ⟨rfl, rfl⟩)
          refine bodyPost_ret (v := .tuple #[.agg #[.int .i64 0, .int .i64 0], .int .i64 (4)]) (by simp [results, Tryz.results25, go_sem, i0, i1]) rfl ⟨by rw [HR.out.1, HR.out.2], ?_⟩
          exact (HB.out.setCell (by dsimp only; omega) _).setCell (by dsimp only; omega) _
        | true =>
          have hbb := inB_iff.1 h1
          have hkk := inB_iff.1 h2
          have hmm := inB_iff.1 h3
          have HUE : Hid (r.untilErr b k mo = r.askErr b b) := Lib.hid (by
            have e1 : r.untilErr b k mo = if r.round.length = 0 then 0 else 7 := by
              unfold Rw.untilErr
              rw [if_neg (by rw [HCK.out]; decide), if_neg HN.out, if_neg (by rw [h3]; decide)]
            have e2 : r.askErr b b = if r.round.length = 0 then 0 else 7 := by
              unfold Rw.askErr
              rw [if_neg (by rw [HCK.out]; decide), if_neg (by rw [HB1.out]; decide)]
            rw [e1, e2])
          go_wp2_with (go_at_call 89; refine (off_any _ _ _ _).mono ?_; rintro e w' ⟨rfl, rfl⟩)
          refine (rSum_any r b b bA dA vA bc dc vc _ (H0.out.onW HB.out)).mono ?_
          rintro e w2 ⟨rfl, hb2⟩
          have HB2 := Lib.hid (HB.out.trans (hb2.mono HB.out.size))
          have HA2 := Lib.hid (HA.out.later hb2)
          have HI2 := Lib.hid (HI.out.same (hb2.block _ HI.out.lt))
          have hs2 : W.heap.size + 2 ≤ w2.heap.size := Nat.le_trans hs1 hb2.size
          clear hb2 c0 c1 c2 HB HA HI h1 h2 h3
          by_cases h4 : r.askErr b b = 0
          · rw [h4]
            have HE4 := Lib.hid h4
            obtain ⟨bn, rfl⟩ := Int.eq_ofNat_of_zero_le hbb.1
            have hbn : bn < r.n := by omega
            have hb0' : (0 : Int) ≤ (bn : Int) := by omega
            have hbn' : (bn : Int) < (r.n : Int) := by omega
            have hrn : r.round = [] := List.length_eq_zero_iff.1 (Rw.ask_ok h4).2.2.2.2
            have hF := Rw.fin_nil HOK.out hrn
            have d1 := hF.d (bn + 1) bn (by omega) (by omega)
            have d2 := hF.d bn (bn + 1) (by omega) (by omega)
            have hg := (HOK.out.b bn hbn).g
            obtain ⟨s, hs⟩ : ∃ s, s = r.sumS (bn : Int) (bn : Int) := ⟨_, rfl⟩
            have hsp : s = r.span bn bn := by rw [hs]; unfold Rw.sumS; rw [if_pos h4]; rfl
            have hsb : -2100 ≤ s.a ∧ s.a ≤ 2100 ∧ -2100 ≤ s.b ∧ s.b ≤ 2100 := by
              rw [hsp]
              unfold Rw.span
              dsimp only
              omega
            rw [← hs]
            have HSP := Lib.hid hsp
            clear h4 hs hsp hF d1 d2 hbb
            go_upto_region 12 with fail
            refine wp_world (fun w' => UbAt W w' r bA bc dA dc vA vc w2.heap.size (w2.heap.size + 1) s (-1) (-1)) ⟨HA2.out.later (by repeat (first | (with_reducible first | exact Below.refl _ _ | assumption | refine Below.drew ?_) | ((with_reducible first | refine Lc ?_ ?_ _ | refine Ls ?_ ?_ _ | refine Lv (by assumption) ?_ ?_); · first | exact Nat.le_refl _ | omega | (dsimp only; omega) | (simp only [World.size_alloc, World.size_drew, World.heap_drewN]; omega) | (simp; omega)))), HI2.out.same (Below.block (show Below w2.heap.size w2 _ from (by repeat (first | (with_reducible first | exact Below.refl _ _ | assumption | refine Below.drew ?_) | ((with_reducible first | refine Lc ?_ ?_ _ | refine Ls ?_ ?_ _ | refine Lv (by assumption) ?_ ?_); · first | exact Nat.le_refl _ | omega | (dsimp only; omega) | (simp only [World.size_alloc, World.size_drew, World.heap_drewN]; omega) | (simp; omega))))) _ HI2.out.lt), ⟨(by (repeat' refine And.intro ?_ ?_) <;> (repeat (first | with_reducible assumption | (simp; done) | (with_reducible first | refine Kd ?_ | refine Kn ?_ | refine Kb (by assumption) ?_) | ((with_reducible first | refine Kw ?_ ?_ | refine Fw ?_) <;> first | with_reducible rfl | (simp; done)) | (with_reducible first | refine Ka _ ?_ | refine Ks _ (by first | exact Nat.le_refl _ | omega | (simp; done) | (simp; omega)) ?_ | refine Fd ?_ | refine Fn ?_ | refine Fb (by assumption) (by first | exact Nat.le_refl _ | omega | (simp; done) | (simp; omega)) ?_ | refine Fa _ (by first | exact Nat.le_refl _ | omega | (simp; done) | (simp; omega)) ?_ | refine Fs _ ?_)))), (by (repeat' refine And.intro ?_ ?_) <;> (repeat (first | with_reducible assumption | (simp; done) | (with_reducible first | refine Kd ?_ | refine Kn ?_ | refine Kb (by assumption) ?_) | ((with_reducible first | refine Kw ?_ ?_ | refine Fw ?_) <;> first | with_reducible rfl | (simp; done)) | (with_reducible first | refine Ka _ ?_ | refine Ks _ (by first | exact Nat.le_refl _ | omega | (simp; done) | (simp; omega)) ?_ | refine Fd ?_ | refine Fn ?_ | refine Fb (by assumption) (by first | exact Nat.le_refl _ | omega | (simp; done) | (simp; omega)) ?_ | refine Fa _ (by first | exact Nat.le_refl _ | omega | (simp; done) | (simp; omega)) ?_ | refine Fs _ ?_)))), (by (repeat' refine And.intro ?_ ?_) <;> (repeat (first | with_reducible assumption | (simp; done) | (with_reducible first | refine Kd ?_ | refine Kn ?_ | refine Kb (by assumption) ?_) | ((with_reducible first | refine Kw ?_ ?_ | refine Fw ?_) <;> first | with_reducible rfl | (simp; done)) | (with_reducible first | refine Ka _ ?_ | refine Ks _ (by first | exact Nat.le_refl _ | omega | (simp; done) | (simp; omega)) ?_ | refine Fd ?_ | refine Fn ?_ | refine Fb (by assumption) (by first | exact Nat.le_refl _ | omega | (simp; done) | (simp; omega)) ?_ | refine Fa _ (by first | exact Nat.le_refl _ | omega | (simp; done) | (simp; omega)) ?_ | refine Fs _ ?_)))), (by (repeat' refine And.intro ?_ ?_) <;> (repeat (first | with_reducible assumption | (simp; done) | (with_reducible first | refine Kd ?_ | refine Kn ?_ | refine Kb (by assumption) ?_) | ((with_reducible first | refine Kw ?_ ?_ | refine Fw ?_) <;> first | with_reducible rfl | (simp; done)) | (with_reducible first | refine Ka _ ?_ | refine Ks _ (by first | exact Nat.le_refl _ | omega | (simp; done) | (simp; omega)) ?_ | refine Fd ?_ | refine Fn ?_ | refine Fb (by assumption) (by first | exact Nat.le_refl _ | omega | (simp; done) | (simp; omega)) ?_ | refine Fa _ (by first | exact Nat.le_refl _ | omega | (simp; done) | (simp; omega)) ?_ | refine Fs _ ?_))))⟩, ⟨(by (repeat' refine And.intro ?_ ?_) <;> (repeat (first | with_reducible assumption | (simp; done) | (with_reducible first | refine Kd ?_ | refine Kn ?_ | refine Kb (by assumption) ?_) | ((with_reducible first | refine Kw ?_ ?_ | refine Fw ?_) <;> first | with_reducible rfl | (simp; done)) | (with_reducible first | refine Ka _ ?_ | refine Ks _ (by first | exact Nat.le_refl _ | omega | (simp; done) | (simp; omega)) ?_ | refine Fd ?_ | refine Fn ?_ | refine Fb (by assumption) (by first | exact Nat.le_refl _ | omega | (simp; done) | (simp; omega)) ?_ | refine Fa _ (by first | exact Nat.le_refl _ | omega | (simp; done) | (simp; omega)) ?_ | refine Fs _ ?_)))), (by (repeat' refine And.intro ?_ ?_) <;> (repeat (first | with_reducible assumption | (simp; done) | (with_reducible first | refine Kd ?_ | refine Kn ?_ | refine Kb (by assumption) ?_) | ((with_reducible first | refine Kw ?_ ?_ | refine Fw ?_) <;> first | with_reducible rfl | (simp; done)) | (with_reducible first | refine Ka _ ?_ | refine Ks _ (by first | exact Nat.le_refl _ | omega | (simp; done) | (simp; omega)) ?_ | refine Fd ?_ | refine Fn ?_ | refine Fb (by assumption) (by first | exact Nat.le_refl _ | omega | (simp; done) | (simp; omega)) ?_ | refine Fa _ (by first | exact Nat.le_refl _ | omega | (simp; done) | (simp; omega)) ?_ | refine Fs _ ?_)))), (by (repeat' refine And.intro ?_ ?_) <;> (repeat (first | with_reducible assumption | (simp; done) | (with_reducible first | refine Kd ?_ | refine Kn ?_ | refine Kb (by assumption) ?_) | ((with_reducible first | refine Kw ?_ ?_ | refine Fw ?_) <;> first | with_reducible rfl | (simp; done)) | (with_reducible first | refine Ka _ ?_ | refine Ks _ (by first | exact Nat.le_refl _ | omega | (simp; done) | (simp; omega)) ?_ | refine Fd ?_ | refine Fn ?_ | refine Fb (by assumption) (by first | exact Nat.le_refl _ | omega | (simp; done) | (simp; omega)) ?_ | refine Fa _ (by first | exact Nat.le_refl _ | omega | (simp; done) | (simp; omega)) ?_ | refine Fs _ ?_)))), (by (repeat' refine And.intro ?_ ?_) <;> (repeat (first | with_reducible assumption | (simp; done) | (with_reducible first | refine Kd ?_ | refine Kn ?_ | refine Kb (by assumption) ?_) | ((with_reducible first | refine Kw ?_ ?_ | refine Fw ?_) <;> first | with_reducible rfl | (simp; done)) | (with_reducible first | refine Ka _ ?_ | refine Ks _ (by first | exact Nat.le_refl _ | omega | (simp; done) | (simp; omega)) ?_ | refine Fd ?_ | refine Fn ?_ | refine Fb (by assumption) (by first | exact Nat.le_refl _ | omega | (simp; done) | (simp; omega)) ?_ | refine Fa _ (by first | exact Nat.le_refl _ | omega | (simp; done) | (simp; omega)) ?_ | refine Fs _ ?_))))⟩, HB2.out.trans (Below.mono (show Below w2.heap.size w2 _ from (by repeat (first | (with_reducible first | exact Below.refl _ _ | assumption | refine Below.drew ?_) | ((with_reducible first | refine Lc ?_ ?_ _ | refine Ls ?_ ?_ _ | refine Lv (by assumption) ?_ ?_); · first | exact Nat.le_refl _ | omega | (dsimp only; omega) | (simp only [World.size_alloc, World.size_drew, World.heap_drewN]; omega) | (simp; omega))))) HB2.out.size), by omega⟩ ?_
            rintro w3 hu3
            have HU3 := Lib.hid hu3
            obtain ⟨sb, hsbe⟩ : ∃ x, x = w2.heap.size := ⟨_, rfl⟩
            obtain ⟨ob, hobe⟩ : ∃ x, x = w2.heap.size + 1 := ⟨_, rfl⟩
            rw [← hobe, ← hsbe] at HU3
            rw [← hobe, ← hsbe]
            clear hu3 HB2 HA2 HI2 hs2 hsbe hobe
            obtain ⟨K, hK⟩ := Int.eq_ofNat_of_zero_le hkk.1
            subst hK
            have hK3 : K = 0 ∨ K = 1 ∨ K = 2 := by omega
            rcases hK3 with rfl | rfl | rfl
            · have hy := hg 0 (by omega)
              obtain ⟨yl, hyl⟩ : ∃ y, y = (r.B bn).lo 0 := ⟨_, rfl⟩
              obtain ⟨yh, hyh⟩ : ∃ y, y = (r.B bn).hi 0 := ⟨_, rfl⟩
              have HYL := Lib.hid hyl
              have HYH := Lib.hid hyh
              rw [← hyl, ← hyh] at hy
              clear hyl hyh
              go_wp2_with fail
              go_loopw [14] (fun i wr => ∃ c : Nat, c ≤ 101 ∧ i = .int .i64 (100 - (c : Int)) ∧ Hid (UbAt W wr r bA bc dA dc vA vc sb ob s (duN s.b yh mo c) (duN s.a yl mo c))) (fun i _ => (intOf i + 1).toNat)
              case atStart => exact ⟨0, by omega, rfl, HU3⟩
              case round =>
                clear HU3
                obtain ⟨c, hc, rfl, HU⟩ := hrel
                obtain ⟨wo, rfl⟩ : ∃ wo, wo = wr := ⟨_, rfl⟩
                obtain ⟨c0, c1, c2⟩ := HU.out.a
                by_cases hlt : c ≤ 100
                · obtain ⟨j, hj⟩ : ∃ j : Nat, j = 100 - c := ⟨_, rfl⟩
                  have hjc : 100 - (c : Int) = (j : Int) := by omega
                  have hj0 : (0 : Int) ≤ (j : Int) := by omega
                  have hj100 : j ≤ 100 := by omega
                  rw [hjc]
                  have HC1 : Hid (duN s.b yh mo (c + 1) = (if mo < s.b + (j : Int) * yh then (j : Int) else duN s.b yh mo c) ∧ duN s.a yl mo (c + 1) = (if mo < s.a + (j : Int) * yl then (j : Int) else duN s.a yl mo c)) := Lib.hid (by rw [hj]; exact ⟨rfl, rfl⟩)
                  have ej : IntKind.i64.wrap ((j : Int) - 1) = 100 - ((c + 1 : Nat) : Int) := by rw [IntWalk.i64_in _ (by omega)]; omega
                  obtain ⟨gb, og, hbA', hbl', e0, e1, e2, e3, e4, e5, e6⟩ := (H0.out.later HU.out.l).b bn hbn
                  subst hbA'
                  rw [← HYL.out] at e0
                  rw [← HYH.out] at e1
                  have q1 : 0 ≤ (j : Int) * yh := Int.mul_nonneg hj0 (by omega)
                  have q2 : (j : Int) * yh ≤ 5000 := Int.le_trans (Int.mul_le_mul (show (j : Int) ≤ 100 by omega) (show yh ≤ 50 by omega) (by omega) (by decide)) (by decide)
                  have q3 : 0 ≤ (j : Int) * yl := Int.mul_nonneg hj0 (by omega)
                  have q4 : (j : Int) * yl ≤ 5000 := Int.le_trans (Int.mul_le_mul (show (j : Int) ≤ 100 by omega) (show yl ≤ 50 by omega) (by omega) (by decide)) (by decide)
                  obtain ⟨ph, hph⟩ : ∃ p, p = (j : Int) * yh := ⟨_, rfl⟩
                  obtain ⟨pl, hpl⟩ : ∃ p, p = (j : Int) * yl := ⟨_, rfl⟩
                  rw [← hph] at q1 q2 HC1
                  rw [← hpl] at q3 q4 HC1
                  have m1 : IntKind.i64.wrap ((j : Int) * yh) = ph := by rw [← hph]; exact IntWalk.i64_in _ (by omega)
                  have m2 : IntKind.i64.wrap ((j : Int) * yl) = pl := by rw [← hpl]; exact IntWalk.i64_in _ (by omega)
                  have s1 : IntKind.i64.wrap (s.b + ph) = s.b + ph := IntWalk.i64_in _ (by omega)
                  have s2 : IntKind.i64.wrap (s.a + pl) = s.a + pl := IntWalk.i64_in _ (by omega)
                  have z1 := HU.out.s.c1
                  have HJ := Lib.hid hj
                  clear hj hjc hph hpl
                  go_upto_region 15 with fail
                  have y0 := cell_regrown z1
                  have y1 := cell_regrown c0
                  have y2 := cell_regrown e1
                  refine region_qbw (by kernel_rfl) (by kernel_rfl) ?_
                  repeat (first | go_big_quiet_step (fail) | quiet_step (fail))
                  refine wpQuiet_nil ?_; intro wq hbq
                  have HUq := Lib.hid (HU.out.later hbq)
                  have e0 := Kb hbq e0
                  clear y0 y1 y2 hbq HU z1 c0 c1 c2 e1
                  go_upto_if 66 with fail
                  go_cut [] (fun wx => Hid (UbAt W wx r (some ⟨gb, og, none⟩) bc dA dc vA vc sb ob s (duN s.b yh mo (c + 1)) (duN s.a yl mo c)) ∧ Hid (wx.cell? ⟨gb, og + bn * 7 + 0, none⟩ = some (.int .i64 yl)))
                  case first =>
                    obtain ⟨o0, o1, f0, f1⟩ := HUq.out.o
                    have hgl := World.block_lt_of_cell? _ _ e0
                    by_cases h6 : mo < s.b + ph
                    · have HE : Hid (duN s.b yh mo (c + 1) = (j : Int)) := Lib.hid (by rw [HC1.out.1, if_pos h6])
                      go_wp2_with fail
                      go_meet
                      refine ⟨Lib.hid (by rw [HE.out]; exact HUq.out.put0 _), Lib.hid ?_⟩
                      have hob := HUq.out.h
                      rw [World.cell?_setCell_other _ _ _ _ (by intro e; injection e with e _ _; omega)]
                      first | exact e0 | simpa using e0
                    · have HE : Hid (duN s.b yh mo (c + 1) = duN s.b yh mo c) := Lib.hid (by rw [HC1.out.1, if_neg h6])
                      go_wp2_with fail
                      go_meet
                      exact ⟨by rw [HE.out]; exact HUq, Lib.hid (by first | exact e0 | simpa using e0)⟩
                  case rest =>
                    obtain ⟨HUx, HEx⟩ := hcut
                    clear HUq e0
                    obtain ⟨c0, c1, c2⟩ := HUx.out.a
                    have z0 := HUx.out.s.c0
                    have ex := HEx.out
                    (try rw [Nat.add_zero] at ex)
                    go_upto_region 17 with fail
                    have y0 := cell_regrown z0
                    have y1 := cell_regrown c0
                    have y2 := cell_regrown ex
                    refine region_qbw (by kernel_rfl) (by kernel_rfl) ?_
                    repeat (first | go_big_quiet_step (fail) | quiet_step (fail))
                    refine wpQuiet_nil ?_; intro wq2 hbq2
                    have HUy := Lib.hid (HUx.out.later hbq2)
                    clear y0 y1 y2 hbq2 HUx z0 c0 c1 c2 ex HEx
                    obtain ⟨o0, o1, f0, f1⟩ := HUy.out.o
                    by_cases h7 : mo < s.a + pl
                    · have HE : Hid (duN s.a yl mo (c + 1) = (j : Int)) := Lib.hid (by rw [HC1.out.2, if_pos h7])
                      go_wp2_with fail
                      refine ⟨?_, ?measure⟩
                      case measure =>
                        have := HJ.out
                        simp [intOf]
                        omega
                      exact ⟨c + 1, by omega, by go_num, Lib.hid (by rw [HE.out]; exact HUy.out.put1 _)⟩
                    · have HE : Hid (duN s.a yl mo (c + 1) = duN s.a yl mo c) := Lib.hid (by rw [HC1.out.2, if_neg h7])
                      go_wp2_with fail
                      refine ⟨?_, ?measure⟩
                      case measure =>
                        have := HJ.out
                        simp [intOf]
                        omega
                      exact ⟨c + 1, by omega, by go_num, by rw [HE.out]; exact HUy⟩
                · obtain rfl : c = 101 := by omega
                  have hge : ¬ (0 : Int) ≤ 100 - ((101 : Nat) : Int) := by omega
                  obtain ⟨o0, o1, f0, f1⟩ := HU.out.o
                  obtain ⟨i0, i1, i2, i3⟩ := HU.out.i
                  have HUE2 : Hid (r.untilErr (bn : Int) (0 : Int) mo = 0) := Lib.hid (by have h := HUE.out; rw [HE4.out] at h; exact h)
                  have HS : Hid (r.untilS (bn : Int) (0 : Int) mo = ⟨duN s.b yh mo 101, duN s.a yl mo 101⟩) := Lib.hid (by
                    show r.untilS (bn : Int) ((0 : Nat) : Int) mo = _
                    unfold Rw.untilS
                    rw [HUE.out, HE4.out, if_pos rfl, duN_all, duN_all, Int.toNat_natCast, Int.toNat_natCast, ← HSP.out, ← HYL.out, ← HYH.out])
                  have hob := HU.out.h
                  have HL := Lib.hid HU.out.l
                  obtain ⟨u, hu⟩ : ∃ u, u = duN s.b yh mo 101 := ⟨_, rfl⟩
                  obtain ⟨v, hv⟩ : ∃ v, v = duN s.a yl mo 101 := ⟨_, rfl⟩
                  rw [← hu] at o0 HS
                  rw [← hv] at o1 HS
                  clear hu hv HU
                  go_wp2_with fail
                  refine bodyPost_ret (v := .tuple #[.agg #[.int .i64 u, .int .i64 v], .int .i64 0]) (by simp [results, Tryz.results25, go_sem, i0, i1]) rfl ⟨by rw [HS.out, HUE2.out], ?_⟩
                  exact (HL.out.setCell (by dsimp only; omega) _).setCell (by dsimp only; omega) _
            · have hy := hg 1 (by omega)
              obtain ⟨yl, hyl⟩ : ∃ y, y = (r.B bn).lo 1 := ⟨_, rfl⟩
              obtain ⟨yh, hyh⟩ : ∃ y, y = (r.B bn).hi 1 := ⟨_, rfl⟩
              have HYL := Lib.hid hyl
              have HYH := Lib.hid hyh
              rw [← hyl, ← hyh] at hy
              clear hyl hyh
              go_wp2_with fail
              go_loopw [14] (fun i wr => ∃ c : Nat, c ≤ 101 ∧ i = .int .i64 (100 - (c : Int)) ∧ Hid (UbAt W wr r bA bc dA dc vA vc sb ob s (duN s.b yh mo c) (duN s.a yl mo c))) (fun i _ => (intOf i + 1).toNat)
              case atStart => exact ⟨0, by omega, rfl, HU3⟩
              case round =>
                clear HU3
                obtain ⟨c, hc, rfl, HU⟩ := hrel
                obtain ⟨wo, rfl⟩ : ∃ wo, wo = wr := ⟨_, rfl⟩
                obtain ⟨c0, c1, c2⟩ := HU.out.a
                by_cases hlt : c ≤ 100
                · obtain ⟨j, hj⟩ : ∃ j : Nat, j = 100 - c := ⟨_, rfl⟩
                  have hjc : 100 - (c : Int) = (j : Int) := by omega
                  have hj0 : (0 : Int) ≤ (j : Int) := by omega
                  have hj100 : j ≤ 100 := by omega
                  rw [hjc]
                  have HC1 : Hid (duN s.b yh mo (c + 1) = (if mo < s.b + (j : Int) * yh then (j : Int) else duN s.b yh mo c) ∧ duN s.a yl mo (c + 1) = (if mo < s.a + (j : Int) * yl then (j : Int) else duN s.a yl mo c)) := Lib.hid (by rw [hj]; exact ⟨rfl, rfl⟩)
                  have ej : IntKind.i64.wrap ((j : Int) - 1) = 100 - ((c + 1 : Nat) : Int) := by rw [IntWalk.i64_in _ (by omega)]; omega
                  obtain ⟨gb, og, hbA', hbl', e0, e1, e2, e3, e4, e5, e6⟩ := (H0.out.later HU.out.l).b bn hbn
                  subst hbA'
                  rw [← HYL.out] at e2
                  rw [← HYH.out] at e3
                  have q1 : 0 ≤ (j : Int) * yh := Int.mul_nonneg hj0 (by omega)
                  have q2 : (j : Int) * yh ≤ 5000 := Int.le_trans (Int.mul_le_mul (show (j : Int) ≤ 100 by omega) (show yh ≤ 50 by omega) (by omega) (by decide)) (by decide)
                  have q3 : 0 ≤ (j : Int) * yl := Int.mul_nonneg hj0 (by omega)
                  have q4 : (j : Int) * yl ≤ 5000 := Int.le_trans (Int.mul_le_mul (show (j : Int) ≤ 100 by omega) (show yl ≤ 50 by omega) (by omega) (by decide)) (by decide)
                  obtain ⟨ph, hph⟩ : ∃ p, p = (j : Int) * yh := ⟨_, rfl⟩
                  obtain ⟨pl, hpl⟩ : ∃ p, p = (j : Int) * yl := ⟨_, rfl⟩
                  rw [← hph] at q1 q2 HC1
                  rw [← hpl] at q3 q4 HC1
                  have m1 : IntKind.i64.wrap ((j : Int) * yh) = ph := by rw [← hph]; exact IntWalk.i64_in _ (by omega)
                  have m2 : IntKind.i64.wrap ((j : Int) * yl) = pl := by rw [← hpl]; exact IntWalk.i64_in _ (by omega)
                  have s1 : IntKind.i64.wrap (s.b + ph) = s.b + ph := IntWalk.i64_in _ (by omega)
                  have s2 : IntKind.i64.wrap (s.a + pl) = s.a + pl := IntWalk.i64_in _ (by omega)
                  have z1 := HU.out.s.c1
                  have HJ := Lib.hid hj
                  clear hj hjc hph hpl
                  go_upto_region 15 with fail
                  have y0 := cell_regrown z1
                  have y1 := cell_regrown c0
                  have y2 := cell_regrown e3
                  refine region_qbw (by kernel_rfl) (by kernel_rfl) ?_
                  repeat (first | go_big_quiet_step (fail) | quiet_step (fail))
                  refine wpQuiet_nil ?_; intro wq hbq
                  have HUq := Lib.hid (HU.out.later hbq)
                  have e2 := Kb hbq e2
                  clear y0 y1 y2 hbq HU z1 c0 c1 c2 e3
                  go_upto_if 66 with fail
                  go_cut [] (fun wx => Hid (UbAt W wx r (some ⟨gb, og, none⟩) bc dA dc vA vc sb ob s (duN s.b yh mo (c + 1)) (duN s.a yl mo c)) ∧ Hid (wx.cell? ⟨gb, og + bn * 7 + 2, none⟩ = some (.int .i64 yl)))
                  case first =>
                    obtain ⟨o0, o1, f0, f1⟩ := HUq.out.o
                    have hgl := World.block_lt_of_cell? _ _ e2
                    by_cases h6 : mo < s.b + ph
                    · have HE : Hid (duN s.b yh mo (c + 1) = (j : Int)) := Lib.hid (by rw [HC1.out.1, if_pos h6])
                      go_wp2_with fail
                      go_meet
                      refine ⟨Lib.hid (by rw [HE.out]; exact HUq.out.put0 _), Lib.hid ?_⟩
                      have hob := HUq.out.h
                      rw [World.cell?_setCell_other _ _ _ _ (by intro e; injection e with e _ _; omega)]
                      first | exact e2 | simpa using e2
                    · have HE : Hid (duN s.b yh mo (c + 1) = duN s.b yh mo c) := Lib.hid (by rw [HC1.out.1, if_neg h6])
                      go_wp2_with fail
                      go_meet
                      exact ⟨by rw [HE.out]; exact HUq, Lib.hid (by first | exact e2 | simpa using e2)⟩
                  case rest =>
                    obtain ⟨HUx, HEx⟩ := hcut
                    clear HUq e2
                    obtain ⟨c0, c1, c2⟩ := HUx.out.a
                    have z0 := HUx.out.s.c0
                    have ex := HEx.out
                    (try rw [Nat.add_zero] at ex)
                    go_upto_region 17 with fail
                    have y0 := cell_regrown z0
                    have y1 := cell_regrown c0
                    have y2 := cell_regrown ex
                    refine region_qbw (by kernel_rfl) (by kernel_rfl) ?_
                    repeat (first | go_big_quiet_step (fail) | quiet_step (fail))
                    refine wpQuiet_nil ?_; intro wq2 hbq2
                    have HUy := Lib.hid (HUx.out.later hbq2)
                    clear y0 y1 y2 hbq2 HUx z0 c0 c1 c2 ex HEx
                    obtain ⟨o0, o1, f0, f1⟩ := HUy.out.o
                    by_cases h7 : mo < s.a + pl
                    · have HE : Hid (duN s.a yl mo (c + 1) = (j : Int)) := Lib.hid (by rw [HC1.out.2, if_pos h7])
                      go_wp2_with fail
                      refine ⟨?_, ?measure⟩
                      case measure =>
                        have := HJ.out
                        simp [intOf]
                        omega
                      exact ⟨c + 1, by omega, by go_num, Lib.hid (by rw [HE.out]; exact HUy.out.put1 _)⟩
                    · have HE : Hid (duN s.a yl mo (c + 1) = duN s.a yl mo c) := Lib.hid (by rw [HC1.out.2, if_neg h7])
                      go_wp2_with fail
                      refine ⟨?_, ?measure⟩
                      case measure =>
                        have := HJ.out
                        simp [intOf]
                        omega
                      exact ⟨c + 1, by omega, by go_num, by rw [HE.out]; exact HUy⟩
                · obtain rfl : c = 101 := by omega
                  have hge : ¬ (0 : Int) ≤ 100 - ((101 : Nat) : Int) := by omega
                  obtain ⟨o0, o1, f0, f1⟩ := HU.out.o
                  obtain ⟨i0, i1, i2, i3⟩ := HU.out.i
                  have HUE2 : Hid (r.untilErr (bn : Int) (1 : Int) mo = 0) := Lib.hid (by have h := HUE.out; rw [HE4.out] at h; exact h)
                  have HS : Hid (r.untilS (bn : Int) (1 : Int) mo = ⟨duN s.b yh mo 101, duN s.a yl mo 101⟩) := Lib.hid (by
                    show r.untilS (bn : Int) ((1 : Nat) : Int) mo = _
                    unfold Rw.untilS
                    rw [HUE.out, HE4.out, if_pos rfl, duN_all, duN_all, Int.toNat_natCast, Int.toNat_natCast, ← HSP.out, ← HYL.out, ← HYH.out])
                  have hob := HU.out.h
                  have HL := Lib.hid HU.out.l
                  obtain ⟨u, hu⟩ : ∃ u, u = duN s.b yh mo 101 := ⟨_, rfl⟩
                  obtain ⟨v, hv⟩ : ∃ v, v = duN s.a yl mo 101 := ⟨_, rfl⟩
                  rw [← hu] at o0 HS
                  rw [← hv] at o1 HS
                  clear hu hv HU
                  go_wp2_with fail
                  refine bodyPost_ret (v := .tuple #[.agg #[.int .i64 u, .int .i64 v], .int .i64 0]) (by simp [results, Tryz.results25, go_sem, i0, i1]) rfl ⟨by rw [HS.out, HUE2.out], ?_⟩
                  exact (HL.out.setCell (by dsimp only; omega) _).setCell (by dsimp only; omega) _
            · have hy := hg 2 (by omega)
              obtain ⟨yl, hyl⟩ : ∃ y, y = (r.B bn).lo 2 := ⟨_, rfl⟩
              obtain ⟨yh, hyh⟩ : ∃ y, y = (r.B bn).hi 2 := ⟨_, rfl⟩
              have HYL := Lib.hid hyl
              have HYH := Lib.hid hyh
              rw [← hyl, ← hyh] at hy
              clear hyl hyh
              go_wp2_with fail
              go_loopw [14] (fun i wr => ∃ c : Nat, c ≤ 101 ∧ i = .int .i64 (100 - (c : Int)) ∧ Hid (UbAt W wr r bA bc dA dc vA vc sb ob s (duN s.b yh mo c) (duN s.a yl mo c))) (fun i _ => (intOf i + 1).toNat)
              case atStart => exact ⟨0, by omega, rfl, HU3⟩
              case round =>
                clear HU3
                obtain ⟨c, hc, rfl, HU⟩ := hrel
                obtain ⟨wo, rfl⟩ : ∃ wo, wo = wr := ⟨_, rfl⟩
                obtain ⟨c0, c1, c2⟩ := HU.out.a
                by_cases hlt : c ≤ 100
                · obtain ⟨j, hj⟩ : ∃ j : Nat, j = 100 - c := ⟨_, rfl⟩
                  have hjc : 100 - (c : Int) = (j : Int) := by omega
                  have hj0 : (0 : Int) ≤ (j : Int) := by omega
                  have hj100 : j ≤ 100 := by omega
                  rw [hjc]
                  have HC1 : Hid (duN s.b yh mo (c + 1) = (if mo < s.b + (j : Int) * yh then (j : Int) else duN s.b yh mo c) ∧ duN s.a yl mo (c + 1) = (if mo < s.a + (j : Int) * yl then (j : Int) else duN s.a yl mo c)) := Lib.hid (by rw [hj]; exact ⟨rfl, rfl⟩)
                  have ej : IntKind.i64.wrap ((j : Int) - 1) = 100 - ((c + 1 : Nat) : Int) := by rw [IntWalk.i64_in _ (by omega)]; omega
                  obtain ⟨gb, og, hbA', hbl', e0, e1, e2, e3, e4, e5, e6⟩ := (H0.out.later HU.out.l).b bn hbn
                  subst hbA'
                  rw [← HYL.out] at e4
                  rw [← HYH.out] at e5
                  have q1 : 0 ≤ (j : Int) * yh := Int.mul_nonneg hj0 (by omega)
                  have q2 : (j : Int) * yh ≤ 5000 := Int.le_trans (Int.mul_le_mul (show (j : Int) ≤ 100 by omega) (show yh ≤ 50 by omega) (by omega) (by decide)) (by decide)
                  have q3 : 0 ≤ (j : Int) * yl := Int.mul_nonneg hj0 (by omega)
                  have q4 : (j : Int) * yl ≤ 5000 := Int.le_trans (Int.mul_le_mul (show (j : Int) ≤ 100 by omega) (show yl ≤ 50 by omega) (by omega) (by decide)) (by decide)
                  obtain ⟨ph, hph⟩ : ∃ p, p = (j : Int) * yh := ⟨_, rfl⟩
                  obtain ⟨pl, hpl⟩ : ∃ p, p = (j : Int) * yl := ⟨_, rfl⟩
                  rw [← hph] at q1 q2 HC1
                  rw [← hpl] at q3 q4 HC1
                  have m1 : IntKind.i64.wrap ((j : Int) * yh) = ph := by rw [← hph]; exact IntWalk.i64_in _ (by omega)
                  have m2 : IntKind.i64.wrap ((j : Int) * yl) = pl := by rw [← hpl]; exact IntWalk.i64_in _ (by omega)
                  have s1 : IntKind.i64.wrap (s.b + ph) = s.b + ph := IntWalk.i64_in _ (by omega)
                  have s2 : IntKind.i64.wrap (s.a + pl) = s.a + pl := IntWalk.i64_in _ (by omega)
                  have z1 := HU.out.s.c1
                  have HJ := Lib.hid hj
                  clear hj hjc hph hpl
                  go_upto_region 15 with fail
                  have y0 := cell_regrown z1
                  have y1 := cell_regrown c0
                  have y2 := cell_regrown e5
                  refine region_qbw (by kernel_rfl) (by kernel_rfl) ?_
                  repeat (first | go_big_quiet_step (fail) | quiet_step (fail))
                  refine wpQuiet_nil ?_; intro wq hbq
                  have HUq := Lib.hid (HU.out.later hbq)
                  have e4 := Kb hbq e4
                  clear y0 y1 y2 hbq HU z1 c0 c1 c2 e5
                  go_upto_if 66 with fail
                  go_cut [] (fun wx => Hid (UbAt W wx r (some ⟨gb, og, none⟩) bc dA dc vA vc sb ob s (duN s.b yh mo (c + 1)) (duN s.a yl mo c)) ∧ Hid (wx.cell? ⟨gb, og + bn * 7 + 4, none⟩ = some (.int .i64 yl)))
                  case first =>
                    obtain ⟨o0, o1, f0, f1⟩ := HUq.out.o
                    have hgl := World.block_lt_of_cell? _ _ e4
                    by_cases h6 : mo < s.b + ph
                    · have HE : Hid (duN s.b yh mo (c + 1) = (j : Int)) := Lib.hid (by rw [HC1.out.1, if_pos h6])
                      go_wp2_with fail
                      go_meet
                      refine ⟨Lib.hid (by rw [HE.out]; exact HUq.out.put0 _), Lib.hid ?_⟩
                      have hob := HUq.out.h
                      rw [World.cell?_setCell_other _ _ _ _ (by intro e; injection e with e _ _; omega)]
                      first | exact e4 | simpa using e4
                    · have HE : Hid (duN s.b yh mo (c + 1) = duN s.b yh mo c) := Lib.hid (by rw [HC1.out.1, if_neg h6])
                      go_wp2_with fail
                      go_meet
                      exact ⟨by rw [HE.out]; exact HUq, Lib.hid (by first | exact e4 | simpa using e4)⟩
                  case rest =>
                    obtain ⟨HUx, HEx⟩ := hcut
                    clear HUq e4
                    obtain ⟨c0, c1, c2⟩ := HUx.out.a
                    have z0 := HUx.out.s.c0
                    have ex := HEx.out
                    (try rw [Nat.add_zero] at ex)
                    go_upto_region 17 with fail
                    have y0 := cell_regrown z0
                    have y1 := cell_regrown c0
                    have y2 := cell_regrown ex
                    refine region_qbw (by kernel_rfl) (by kernel_rfl) ?_
                    repeat (first | go_big_quiet_step (fail) | quiet_step (fail))
                    refine wpQuiet_nil ?_; intro wq2 hbq2
                    have HUy := Lib.hid (HUx.out.later hbq2)
                    clear y0 y1 y2 hbq2 HUx z0 c0 c1 c2 ex HEx
                    obtain ⟨o0, o1, f0, f1⟩ := HUy.out.o
                    by_cases h7 : mo < s.a + pl
                    · have HE : Hid (duN s.a yl mo (c + 1) = (j : Int)) := Lib.hid (by rw [HC1.out.2, if_pos h7])
                      go_wp2_with fail
                      refine ⟨?_, ?measure⟩
                      case measure =>
                        have := HJ.out
                        simp [intOf]
                        omega
                      exact ⟨c + 1, by omega, by go_num, Lib.hid (by rw [HE.out]; exact HUy.out.put1 _)⟩
                    · have HE : Hid (duN s.a yl mo (c + 1) = duN s.a yl mo c) := Lib.hid (by rw [HC1.out.2, if_neg h7])
                      go_wp2_with fail
                      refine ⟨?_, ?measure⟩
                      case measure =>
                        have := HJ.out
                        simp [intOf]
                        omega
                      exact ⟨c + 1, by omega, by go_num, by rw [HE.out]; exact HUy⟩
                · obtain rfl : c = 101 := by omega
                  have hge : ¬ (0 : Int) ≤ 100 - ((101 : Nat) : Int) := by omega
                  obtain ⟨o0, o1, f0, f1⟩ := HU.out.o
                  obtain ⟨i0, i1, i2, i3⟩ := HU.out.i
                  have HUE2 : Hid (r.untilErr (bn : Int) (2 : Int) mo = 0) := Lib.hid (by have h := HUE.out; rw [HE4.out] at h; exact h)
                  have HS : Hid (r.untilS (bn : Int) (2 : Int) mo = ⟨duN s.b yh mo 101, duN s.a yl mo 101⟩) := Lib.hid (by
                    show r.untilS (bn : Int) ((2 : Nat) : Int) mo = _
                    unfold Rw.untilS
                    rw [HUE.out, HE4.out, if_pos rfl, duN_all, duN_all, Int.toNat_natCast, Int.toNat_natCast, ← HSP.out, ← HYL.out, ← HYH.out])
                  have hob := HU.out.h
                  have HL := Lib.hid HU.out.l
                  obtain ⟨u, hu⟩ : ∃ u, u = duN s.b yh mo 101 := ⟨_, rfl⟩
                  obtain ⟨v, hv⟩ : ∃ v, v = duN s.a yl mo 101 := ⟨_, rfl⟩
                  rw [← hu] at o0 HS
                  rw [← hv] at o1 HS
                  clear hu hv HU
                  go_wp2_with fail
                  refine bodyPost_ret (v := .tuple #[.agg #[.int .i64 u, .int .i64 v], .int .i64 0]) (by simp [results, Tryz.results25, go_sem, i0, i1]) rfl ⟨by rw [HS.out, HUE2.out], ?_⟩
                  exact (HL.out.setCell (by dsimp only; omega) _).setCell (by dsimp only; omega) _
          · have h5 := h4
            have hne : (r.askErr b b != 0) = true := by simpa using h4
            have HR : Hid (r.untilS b k mo = ⟨0, 0⟩ ∧ r.untilErr b k mo = r.askErr b b) := Lib.hid ⟨by unfold Rw.untilS; rw [HUE.out, if_neg h5], HUE.out⟩
            obtain ⟨i0, i1, i2, i3⟩ := HI2.out
            have HB := Lib.hid HB2.out
            clear h4 h5
            go_wp2_with fail
            refine bodyPost_ret (v := .tuple #[.agg #[.int .i64 0, .int .i64 0], .int .i64 (r.askErr b b)]) (by simp [results, Tryz.results25, go_sem, i0, i1]) rfl ⟨by rw [HR.out.1, HR.out.2], ?_⟩
            have hbb2 := HB.out.alloc HB.out.size (.cells #[.int .i64 (r.sumS b b).a, .int .i64 (r.sumS b b).b] 49)
            exact (hbb2.setCell (by dsimp only; omega) _).setCell (by dsimp only; omega) _
  · have hne : (r.check != 0) = true := by simpa using h0
    have HR : Hid (r.untilS b k mo = ⟨0, 0⟩ ∧ r.untilErr b k mo = r.check) := Lib.hid (by
      have e : r.untilErr b k mo = r.check := by unfold Rw.untilErr; rw [if_pos h0]
      refine ⟨?_, e⟩
      unfold Rw.untilS
      rw [e, if_neg (by exact h0)])
    obtain ⟨i0, i1, i2, i3⟩ := HI.out
    clear h0
    go_wp2_with fail
    refine bodyPost_ret (v := .tuple #[.agg #[.int .i64 0, .int .i64 0], .int .i64 (r.check)]) (by simp [results, Tryz.results25, go_sem, i0, i1]) rfl ⟨by rw [HR.out.1, HR.out.2], ?_⟩
    exact (HB.out.setCell (by dsimp only; omega) _).setCell (by dsimp only; omega) _
end Go.Proofs.YtnnikeolgknfoaaGreat
