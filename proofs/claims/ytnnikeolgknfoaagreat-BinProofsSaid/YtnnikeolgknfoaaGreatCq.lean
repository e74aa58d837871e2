/- Alike of the kit at spans and numbers. (Written by gen_bcopy.py.) -/
import Derived.Test.YtnnikeolgknfoaaGreatCp
set_option linter.unusedSimpArgs false
set_option linter.unusedVariables false
namespace Go.Proofs.YtnnikeolgknfoaaGreat
open Go.RowKit Go.Shelf

theorem alln_no {f : Nat → Bool} {n k : Nat} (hk : k < n) (h : f k = false) : allN f n = false := by
  cases e : allN f n with
  | false => rfl
  | true => rw [allN_iff] at e; rw [e k hk] at h; cases h
def spEq (x y : Sp) : Bool := (x.a == y.a) && (x.b == y.b)

set_option maxRecDepth 100000 in
set_option maxHeartbeats 2000000 in
theorem alike_sp (A C : Option Addr) (n m ca cc : Nat) (X Y : Nat → Sp) (W : World) (hA : SpRow W W.heap.size A n X) (hC : SpRow W W.heap.size C m Y) (hn : n ≤ 1000) :
    Calls Tryz.prog 37 #[.slice A n ca, .slice C m cc] W fun e W' => e = .returned (.bool (decide (n = m) && allN (fun k => spEq (X k) (Y k)) n)) ∧ Below W.heap.size W W' := by
  have HA := Lib.hid hA
  have HC := Lib.hid hC
  clear hA hC
  by_cases hnm : n = m
  · subst hnm
    have hb : ((n : Int) != (n : Int)) = false := by simp
    go_enter Tryz.func37, Tryz.ntmps37
    go_wp2_with fail
    go_loopw [14] (fun i wr => ∃ k : Nat, k ≤ n ∧ i = .int .i64 k ∧ Hid (allN (fun k => spEq (X k) (Y k)) k = true) ∧ Hid (Below W.heap.size W wr)) (fun i _ => n - (intOf i).toNat)
    case atStart => exact ⟨0, Nat.zero_le _, rfl, Lib.hid rfl, Lib.hid (Below.refl _ _)⟩
    case round =>
      obtain ⟨k, hk, rfl, hal, hbw⟩ := hrel
      by_cases hlt : k < n
      · obtain ⟨b, o, rfl, hb1, c0, c1⟩ := HA.out k hlt
        obtain ⟨b', o', rfl, hb2, d0, d1⟩ := HC.out k hlt
        have hk0 : (0 : Int) ≤ (k : Int) := by omega
        have hkn : (k : Int) < (n : Int) := by omega
        have c0 := cell_same (hbw.out.block _ hb1) c0
        have c1 := cell_same (hbw.out.block _ hb1) c1
        have d0 := cell_same (hbw.out.block _ hb2) d0
        have d1 := cell_same (hbw.out.block _ hb2) d1
        have hsr := hbw.out.size
        go_upto_region 6 with fail
        refine wp_world (fun W5 => (W5.cell? ⟨wr.heap.size, 0, none⟩ = some (.int .i64 ((X k).a)) ∧ W5.cell? ⟨wr.heap.size, 1, none⟩ = some (.int .i64 ((X k).b))) ∧ Below wr.heap.size wr W5) ⟨(by (repeat' refine And.intro ?_ ?_) <;> (repeat (first | with_reducible assumption | (simp; done) | (with_reducible first | refine Kd ?_ | refine Kn ?_ | refine Kb (by assumption) ?_) | ((with_reducible first | refine Kw ?_ ?_ | refine Fw ?_) <;> first | with_reducible rfl | (simp; done)) | (with_reducible first | refine Ka _ ?_ | refine Ks _ (by first | exact Nat.le_refl _ | omega | (simp; done) | (simp; omega)) ?_ | refine Fd ?_ | refine Fn ?_ | refine Fb (by assumption) (by first | exact Nat.le_refl _ | omega | (simp; done) | (simp; omega)) ?_ | refine Fa _ (by first | exact Nat.le_refl _ | omega | (simp; done) | (simp; omega)) ?_ | refine Fs _ ?_)))), (by repeat (first | (with_reducible first | exact Below.refl _ _ | refine Below.drew ?_ | refine below_drewN ?_ _) | ((with_reducible first | refine Lc ?_ ?_ _ | refine Ls ?_ ?_ _ | refine Lv (by assumption) ?_ ?_); · first | exact Nat.le_refl _ | omega | (simp; done) | (simp; omega) | (simp at *; omega))))⟩ ?_
        rintro W5 ⟨⟨p0, p1⟩, hb5⟩
        have x0 := cell_regrown p0
        have y0 := cell_regrown (Kb hb5 d0)
        have x1 := cell_regrown p1
        have y1 := cell_regrown (Kb hb5 d1)
        have HB5 := Lib.hid (hbw.out.trans (hb5.mono hsr))
        have hs5 := hb5.size
        have hsn : allN (fun k => spEq (X k) (Y k)) (k + 1) = spEq (X k) (Y k) := by
          show (allN _ k && spEq (X k) (Y k)) = _
          rw [hal.out, Bool.true_and]
        have HSN := Lib.hid hsn
        clear c0 c1 d0 d1 p0 p1 hb5 hsn
        cases e0 : ((X k).a == (Y k).a) with
        | false =>
          have hxy : Hid (spEq (X k) (Y k) = false) := Lib.hid (by unfold spEq; rw [e0]; simp)
          have hno : Hid (allN (fun k => spEq (X k) (Y k)) n = false) := Lib.hid (alln_no hlt hxy.out)
          refine region_qbw (by kernel_rfl) (by kernel_rfl) ?_
          repeat (first | go_big_quiet_step (fail) | quiet_step (fail))
          refine wpQuiet_nil ?_; intro wq hbq
          have HB6 := Lib.hid (HB5.out.trans (hbq.mono (by omega)))
          clear x0 y0 x1 y1 hbq
          go_wp2_with fail
          go_ret
          exact ⟨by rw [hno.out]; simp, HB6.out⟩
        | true =>
          cases e1 : ((X k).b == (Y k).b) with
          | false =>
            have hxy : Hid (spEq (X k) (Y k) = false) := Lib.hid (by unfold spEq; rw [e1]; simp)
            have hno : Hid (allN (fun k => spEq (X k) (Y k)) n = false) := Lib.hid (alln_no hlt hxy.out)
            refine region_qbw (by kernel_rfl) (by kernel_rfl) ?_
            repeat (first | go_big_quiet_step (fail) | quiet_step (fail))
            refine wpQuiet_nil ?_; intro wq hbq
            have HB6 := Lib.hid (HB5.out.trans (hbq.mono (by omega)))
            clear x0 y0 x1 y1 hbq
            go_wp2_with fail
            go_ret
            exact ⟨by rw [hno.out]; simp, HB6.out⟩
          | true =>
            have hal2 : Hid (allN (fun k => spEq (X k) (Y k)) (k + 1) = true) := Lib.hid (by
              rw [HSN.out]; unfold spEq; rw [e0, e1]; rfl)
            refine region_qbw (by kernel_rfl) (by kernel_rfl) ?_
            repeat (first | go_big_quiet_step (fail) | quiet_step (fail))
            refine wpQuiet_nil ?_; intro wq hbq
            have HB6 := Lib.hid (HB5.out.trans (hbq.mono (by omega)))
            clear x0 y0 x1 y1 hbq
            go_wp2_with fail
            go_roundw
            case rel => exact ⟨k + 1, by omega, by go_num, hal2, HB6⟩
            case measure => simp [intOf]; omega
      · obtain rfl : k = n := by omega
        have hge : ¬ (k : Int) < (k : Int) := by omega
        go_wp2_with fail
        go_ret
        exact ⟨by rw [hal.out]; simp, hbw.out⟩
  · have hb : ((n : Int) != (m : Int)) = true := by rw [bne_iff_ne]; omega
    have HN := Lib.hid hnm
    clear hnm
    go_enter Tryz.func37, Tryz.ntmps37
    go_wp2_with fail
    go_ret
    exact ⟨by simp [HN.out], Below.refl _ _⟩

set_option maxRecDepth 100000 in
set_option maxHeartbeats 2000000 in
theorem alike_int (A C : Option Addr) (n m ca cc : Nat) (X Y : Nat → Int) (W : World) (hA : IntRow W W.heap.size A n X) (hC : IntRow W W.heap.size C m Y) (hn : n ≤ 1000) :
    Calls Tryz.prog 17 #[.slice A n ca, .slice C m cc] W fun e W' => e = .returned (.bool (decide (n = m) && allN (fun k => decide (X k = Y k)) n)) ∧ Below W.heap.size W W' := by
  have HA := Lib.hid hA
  have HC := Lib.hid hC
  clear hA hC
  by_cases hnm : n = m
  · subst hnm
    have hb : ((n : Int) != (n : Int)) = false := by simp
    go_enter Tryz.func17, Tryz.ntmps17
    go_wp2_with fail
    go_loopw [14] (fun i wr => ∃ k : Nat, k ≤ n ∧ i = .int .i64 k ∧ Hid (allN (fun k => decide (X k = Y k)) k = true) ∧ wr = W) (fun i _ => n - (intOf i).toNat)
    case atStart => exact ⟨0, Nat.zero_le _, rfl, Lib.hid rfl, rfl⟩
    case round =>
      obtain ⟨k, hk, rfl, hal, rfl⟩ := hrel
      by_cases hlt : k < n
      · obtain ⟨b, o, rfl, hb1, c0⟩ := HA.out k hlt
        obtain ⟨b', o', rfl, hb2, d0⟩ := HC.out k hlt
        have hk0 : (0 : Int) ≤ (k : Int) := by omega
        have hkn : (k : Int) < (n : Int) := by omega
        cases hxy : X k != Y k with
        | false =>
          have hal2 : Hid (allN (fun k => decide (X k = Y k)) (k + 1) = true) := Lib.hid (by
            show (allN _ k && decide (X k = Y k)) = true
            rw [hal.out]
            have : X k = Y k := by simpa using hxy
            simp [this])
          go_wp2_with fail
          go_roundw
          case rel => exact ⟨k + 1, by omega, by go_num, hal2, trivial⟩
          case measure => simp [intOf]; omega
        | true =>
          have hno : Hid (allN (fun k => decide (X k = Y k)) n = false) := Lib.hid (by
            cases h : allN (fun k => decide (X k = Y k)) n with
            | false => rfl
            | true =>
              have h2 := allN_iff.1 h k hlt
              simp only [decide_eq_true_eq] at h2
              rw [h2] at hxy
              simp at hxy)
          go_wp2_with fail
          go_ret
          exact ⟨by rw [hno.out]; simp, Below.refl _ _⟩
      · obtain rfl : k = n := by omega
        have hge : ¬ (k : Int) < (k : Int) := by omega
        go_wp2_with fail
        go_ret
        exact ⟨by rw [hal.out]; simp, Below.refl _ _⟩
  · have hb : ((n : Int) != (m : Int)) = true := by rw [bne_iff_ne]; omega
    have HN := Lib.hid hnm
    clear hnm
    go_enter Tryz.func17, Tryz.ntmps17
    go_wp2_with fail
    go_ret
    exact ⟨by simp [HN.out], Below.refl _ _⟩

end Go.Proofs.YtnnikeolgknfoaaGreat
