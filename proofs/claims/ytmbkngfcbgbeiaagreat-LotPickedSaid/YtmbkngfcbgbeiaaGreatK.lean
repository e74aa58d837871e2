/- Three; Alike, Copy of the kit. -/
import Derived.Test.YtmbkngfcbgbeiaaGreatA
set_option linter.unusedSimpArgs false
set_option linter.unusedVariables false
namespace Go.Proofs.YtmbkngfcbgbeiaaGreat
open Go.RowKit Go.Shelf

set_option maxRecDepth 100000 in
set_option maxHeartbeats 1000000 in
/-- Three -/
theorem Three_any (W : World) : Calls Tryz.prog 36 #[] W fun e W' => ∃ pb gb, e = .returned (stV (some ⟨pb, 0, none⟩) 3 3 (some ⟨gb, 0, none⟩) 2 2 2) ∧ StRow W' W'.heap.size st3 (some ⟨pb, 0, none⟩) 3 (some ⟨gb, 0, none⟩) 2 ∧ Below W.heap.size W W' := by
  go_enter Tryz.func36, Tryz.ntmps36
  go_wp2_with fail
  obtain ⟨w', hw⟩ : ∃ w', w' = ((W.alloc (.cells #[.slice (some ⟨W.heap.size + 1, 0, none⟩) 3 3, .slice (some ⟨W.heap.size + 1 + 1, 0, none⟩) 2 2, .int .i64 2] 33)).alloc (.cells #[.int .i64 4, .int .i64 2, .int .i64 0, .int .i64 0, .int .i64 6, .int .i64 1, .int .i64 2, .int .i64 0, .int .i64 3, .int .i64 3, .int .i64 2, .int .i64 1] 49)).alloc (.cells #[.int .i64 10, .int .i64 9, .int .i64 30, .int .i64 6] 58) := ⟨_, rfl⟩
  have hsz : w'.heap.size = W.heap.size + 1 + 1 + 1 := by rw [hw]; simp
  have hP : ∀ j (hj : j < 12), w'.cell? ⟨W.heap.size + 1, j, none⟩ = #[Value.int .i64 4, .int .i64 2, .int .i64 0, .int .i64 0, .int .i64 6, .int .i64 1, .int .i64 2, .int .i64 0, .int .i64 3, .int .i64 3, .int .i64 2, .int .i64 1][j]? := fun j hj => by
    rw [hw]
    match j, hj with
    | 0, _ => simp [go_sem] | 1, _ => simp [go_sem] | 2, _ => simp [go_sem] | 3, _ => simp [go_sem] | 4, _ => simp [go_sem] | 5, _ => simp [go_sem]
    | 6, _ => simp [go_sem] | 7, _ => simp [go_sem] | 8, _ => simp [go_sem] | 9, _ => simp [go_sem] | 10, _ => simp [go_sem] | 11, _ => simp [go_sem]
  have hG : ∀ j (hj : j < 4), w'.cell? ⟨W.heap.size + 1 + 1, j, none⟩ = #[Value.int .i64 10, .int .i64 9, .int .i64 30, .int .i64 6][j]? := fun j hj => by
    rw [hw]
    match j, hj with
    | 0, _ => simp [go_sem] | 1, _ => simp [go_sem] | 2, _ => simp [go_sem] | 3, _ => simp [go_sem]
  have hS : w'.cell? ⟨W.heap.size, 0, none⟩ = some (.slice (some ⟨W.heap.size + 1, 0, none⟩) 3 3) ∧ w'.cell? ⟨W.heap.size, 1, none⟩ = some (.slice (some ⟨W.heap.size + 1 + 1, 0, none⟩) 2 2) ∧ w'.cell? ⟨W.heap.size, 2, none⟩ = some (.int .i64 2) := by
    rw [hw]; exact (by (repeat' refine And.intro ?_ ?_) <;> (repeat (first | (with_reducible assumption) | (simp; done) | (with_reducible refine cell_drew_of ?_) | (with_reducible refine cell_drewN_of ?_) | (with_reducible refine cell_below_of (by with_reducible assumption) ?_) | ((with_reducible refine cell_new_of ?_ ?_) <;> (first | (with_reducible rfl) | (simp; done))) | ((with_reducible refine fro_new_of ?_) <;> (first | (with_reducible rfl) | (simp; done))) | (with_reducible refine cell_alloc_of _ ?_) | (with_reducible refine cell_set_of _ (by (first | exact Nat.le_refl _ | omega | (simp; done) | (simp; omega))) ?_) | (with_reducible refine fro_drew_of ?_) | (with_reducible refine fro_drewN_of ?_) | (with_reducible refine fro_below_of (by with_reducible assumption) (by (first | exact Nat.le_refl _ | omega | (simp; done) | (simp; omega))) ?_) | (with_reducible refine fro_alloc_of _ (by (first | exact Nat.le_refl _ | omega | (simp; done) | (simp; omega))) ?_) | (with_reducible refine fro_set_of _ ?_))))
  have hB : Below W.heap.size W w' := by rw [hw]; exact (by repeat (first | (with_reducible exact Below.refl _ _) | (with_reducible refine Below.drew ?_) | (with_reducible refine below_drewN ?_ _) | ((with_reducible refine below_alloc ?_ ?_ _); · (first | exact Nat.le_refl _ | omega | (simp; done) | (simp; omega) | (simp at *; omega))) | ((with_reducible refine below_set ?_ ?_ _); · (first | exact Nat.le_refl _ | omega | (simp; done) | (simp; omega) | (simp at *; omega))) | ((with_reducible refine below_via (by with_reducible assumption) ?_ ?_); · (first | exact Nat.le_refl _ | omega | (simp; done) | (simp; omega) | (simp at *; omega)))))
  rw [← hw]
  clear hw
  obtain ⟨s0, s1, s2⟩ := hS
  refine bodyPost_ret (v := stV (some ⟨W.heap.size + 1, 0, none⟩) 3 3 (some ⟨W.heap.size + 1 + 1, 0, none⟩) 2 2 2) (by simp (maxDischargeDepth := 9) [results, Tryz.results36, go_sem, s0, s1, s2, stV]) rfl ⟨_, _, rfl, ⟨Nat.le_refl _, fun k hk => ?_, fun k hk => ?_, by decide, by decide, by decide, by decide⟩, hB⟩
  · refine ⟨_, _, rfl, by omega, ?_⟩
    match k, hk with
    | 0, _ => exact ⟨hP 0 (by omega), hP 1 (by omega), hP 2 (by omega), hP 3 (by omega)⟩
    | 1, _ => exact ⟨hP 4 (by omega), hP 5 (by omega), hP 6 (by omega), hP 7 (by omega)⟩
    | 2, _ => exact ⟨hP 8 (by omega), hP 9 (by omega), hP 10 (by omega), hP 11 (by omega)⟩
    | k + 3, h => exact absurd h (by show ¬ k + 3 < 3; omega)
  · refine ⟨_, _, rfl, by omega, ?_⟩
    match k, hk with
    | 0, _ => exact ⟨hG 0 (by omega), hG 1 (by omega)⟩
    | 1, _ => exact ⟨hG 2 (by omega), hG 3 (by omega)⟩
    | k + 2, h => exact absurd h (by show ¬ k + 2 < 2; omega)

theorem alln_no {f : Nat → Bool} {n k : Nat} (hk : k < n) (h : f k = false) : allN f n = false := by
  cases h2 : allN f n with
  | false => rfl
  | true => rw [allN_iff.1 h2 k hk] at h; cases h

set_option maxRecDepth 100000 in
set_option maxHeartbeats 1000000 in
/-- Alike of numbers -/
theorem alike_int (A C : Option Addr) (n m ca cc : Nat) (X Y : Nat → Int) (W : World) (hA : IntRow W W.heap.size A n X) (hC : IntRow W W.heap.size C m Y) (hn : n ≤ 1000) :
    Calls Tryz.prog 41 #[.slice A n ca, .slice C m cc] W fun e W' => e = .returned (.bool (decide (n = m) && allN (fun k => decide (X k = Y k)) n)) ∧ Below W.heap.size W W' := by
  have HA := Lib.hid hA
  have HC := Lib.hid hC
  clear hA hC
  by_cases hnm : n = m
  · subst hnm
    have hb : ((n : Int) != (n : Int)) = false := by simp
    go_enter Tryz.func41, Tryz.ntmps41
    go_wp2_with fail
    go_loopw [14] (fun i wr => ∃ k : Nat, k ≤ n ∧ i = .int .i64 k ∧ Hid (allN (fun k => decide (X k = Y k)) k = true) ∧ wr = W) (fun i _ => n - (intOf i).toNat)
    case atStart => exact ⟨0, Nat.zero_le _, rfl, Lib.hid rfl, rfl⟩
    case round =>
      obtain ⟨k, hk, rfl, hal, rfl⟩ := hrel
      by_cases hlt : k < n
      · obtain ⟨b, o, rfl, hb1, c0⟩ := HA.out k hlt
        obtain ⟨b', o', rfl, hb2, d0⟩ := HC.out k hlt
        have hk0 : (0 : Int) ≤ (k : Int) := by omega
        have hkn : (k : Int) < (n : Int) := by omega
        cases hxy : X k != Y k with
        | false =>
          have hal2 : Hid (allN (fun k => decide (X k = Y k)) (k + 1) = true) := Lib.hid (by
            show (allN _ k && decide (X k = Y k)) = true
            rw [hal.out]
            have : X k = Y k := by simpa using hxy
            simp [this])
          go_wp2_with fail
          go_roundw
          case rel => exact ⟨k + 1, by omega, by go_num, hal2, trivial⟩
          case measure => simp [intOf]; omega
        | true =>
          have hno : Hid (allN (fun k => decide (X k = Y k)) n = false) := Lib.hid (by
            cases h : allN (fun k => decide (X k = Y k)) n with
            | false => rfl
            | true =>
              have h2 := allN_iff.1 h k hlt
              simp only [decide_eq_true_eq] at h2
              rw [h2] at hxy
              simp at hxy)
          go_wp2_with fail
          go_ret
          exact ⟨by rw [hno.out]; simp, Below.refl _ _⟩
      · obtain rfl : k = n := by omega
        have hge : ¬ (k : Int) < (k : Int) := by omega
        go_wp2_with fail
        go_ret
        exact ⟨by rw [hal.out]; simp, Below.refl _ _⟩
  · have hb : ((n : Int) != (m : Int)) = true := by rw [bne_iff_ne]; omega
    have HN := Lib.hid hnm
    clear hnm
    go_enter Tryz.func41, Tryz.ntmps41
    go_wp2_with fail
    go_ret
    exact ⟨by simp [HN.out], Below.refl _ _⟩

set_option maxRecDepth 100000 in
set_option maxHeartbeats 1000000 in
/-- Alike of spans -/
theorem alike_sp (A C : Option Addr) (n m ca cc : Nat) (X Y : Nat → Int × Int) (W : World) (hA : SpRow W W.heap.size A n X) (hC : SpRow W W.heap.size C m Y) (hn : n ≤ 1000) :
    Calls Tryz.prog 47 #[.slice A n ca, .slice C m cc] W fun e W' => e = .returned (.bool (decide (n = m) && allN (fun k => decide (X k = Y k)) n)) ∧ Below W.heap.size W W' := by
  have HA := Lib.hid hA
  have HC := Lib.hid hC
  clear hA hC
  by_cases hnm : n = m
  · subst hnm
    have hb : ((n : Int) != (n : Int)) = false := by simp
    go_enter Tryz.func47, Tryz.ntmps47
    go_wp2_with fail
    go_loopw [14] (fun i wr => ∃ k : Nat, k ≤ n ∧ i = .int .i64 k ∧ Hid (allN (fun k => decide (X k = Y k)) k = true) ∧ Hid (Below W.heap.size W wr)) (fun i _ => n - (intOf i).toNat)
    case atStart => exact ⟨0, Nat.zero_le _, rfl, Lib.hid rfl, Lib.hid (Below.refl _ _)⟩
    case round =>
      obtain ⟨k, hk, rfl, hal, hbw⟩ := hrel
      by_cases hlt : k < n
      · obtain ⟨b, o, rfl, hb1, c0, c1⟩ := HA.out k hlt
        obtain ⟨b', o', rfl, hb2, d0, d1⟩ := HC.out k hlt
        have hk0 : (0 : Int) ≤ (k : Int) := by omega
        have hkn : (k : Int) < (n : Int) := by omega
        have c0 := cell_same (hbw.out.block _ hb1) c0
        have c1 := cell_same (hbw.out.block _ hb1) c1
        have d0 := cell_same (hbw.out.block _ hb2) d0
        have d1 := cell_same (hbw.out.block _ hb2) d1
        have hsr := hbw.out.size
        go_upto_region 6 with fail
        refine wp_name (fun W5 => (W5.cell? ⟨wr.heap.size, 0, none⟩ = some (.int .i64 (X k).1) ∧ W5.cell? ⟨wr.heap.size, 1, none⟩ = some (.int .i64 (X k).2)) ∧ Below wr.heap.size wr W5) ⟨(by (repeat' refine And.intro ?_ ?_) <;> (repeat (first | (with_reducible assumption) | (simp; done) | (with_reducible refine cell_drew_of ?_) | (with_reducible refine cell_drewN_of ?_) | (with_reducible refine cell_below_of (by with_reducible assumption) ?_) | ((with_reducible refine cell_new_of ?_ ?_) <;> (first | (with_reducible rfl) | (simp; done))) | ((with_reducible refine fro_new_of ?_) <;> (first | (with_reducible rfl) | (simp; done))) | (with_reducible refine cell_alloc_of _ ?_) | (with_reducible refine cell_set_of _ (by (first | exact Nat.le_refl _ | omega | (simp; done) | (simp; omega))) ?_) | (with_reducible refine fro_drew_of ?_) | (with_reducible refine fro_drewN_of ?_) | (with_reducible refine fro_below_of (by with_reducible assumption) (by (first | exact Nat.le_refl _ | omega | (simp; done) | (simp; omega))) ?_) | (with_reducible refine fro_alloc_of _ (by (first | exact Nat.le_refl _ | omega | (simp; done) | (simp; omega))) ?_) | (with_reducible refine fro_set_of _ ?_)))), (by repeat (first | (with_reducible exact Below.refl _ _) | (with_reducible refine Below.drew ?_) | (with_reducible refine below_drewN ?_ _) | ((with_reducible refine below_alloc ?_ ?_ _); · (first | exact Nat.le_refl _ | omega | (simp; done) | (simp; omega) | (simp at *; omega))) | ((with_reducible refine below_set ?_ ?_ _); · (first | exact Nat.le_refl _ | omega | (simp; done) | (simp; omega) | (simp at *; omega))) | ((with_reducible refine below_via (by with_reducible assumption) ?_ ?_); · (first | exact Nat.le_refl _ | omega | (simp; done) | (simp; omega) | (simp at *; omega)))))⟩ ?_
        rintro W5 ⟨⟨p0, p1⟩, hb5⟩
        have x0 := cell_regrown p0
        have x1 := cell_regrown p1
        have y0 := cell_regrown (cell_below_of hb5 d0)
        have y1 := cell_regrown (cell_below_of hb5 d1)
        have HB5 := Lib.hid (hbw.out.trans (hb5.mono hsr))
        have hs5 := hb5.size
        have hsn : allN (fun k => decide (X k = Y k)) (k + 1) = decide (X k = Y k) := by
          show (allN _ k && decide (X k = Y k)) = _
          rw [hal.out, Bool.true_and]
        have HSN := Lib.hid hsn
        clear c0 c1 d0 d1 p0 p1 hb5 hsn
        cases e1 : ((X k).1 == (Y k).1) with
        | false =>
          have hxy : Hid (decide (X k = Y k) = false) := Lib.hid (by simp only [decide_eq_false_iff_not]; intro h; rw [h] at e1; simp at e1)
          have hno : Hid (allN (fun k => decide (X k = Y k)) n = false) := Lib.hid (alln_no hlt hxy.out); refine region_qbw (by kernel_rfl) (by kernel_rfl) ?_; (repeat (first | go_big_quiet_step (fail) | quiet_step (fail))); refine wpQuiet_nil ?_; intro wq hbq; have HB6 := Lib.hid (HB5.out.trans (hbq.mono (by omega))); clear x0 x1 y0 y1 hbq; go_wp2_with fail; go_ret; exact ⟨by rw [hno.out]; simp, HB6.out⟩
        | true =>
          cases e2 : ((X k).2 == (Y k).2) with
          | false =>
            have hxy : Hid (decide (X k = Y k) = false) := Lib.hid (by simp only [decide_eq_false_iff_not]; intro h; rw [h] at e2; simp at e2)
            have hno : Hid (allN (fun k => decide (X k = Y k)) n = false) := Lib.hid (alln_no hlt hxy.out); refine region_qbw (by kernel_rfl) (by kernel_rfl) ?_; (repeat (first | go_big_quiet_step (fail) | quiet_step (fail))); refine wpQuiet_nil ?_; intro wq hbq; have HB6 := Lib.hid (HB5.out.trans (hbq.mono (by omega))); clear x0 x1 y0 y1 hbq; go_wp2_with fail; go_ret; exact ⟨by rw [hno.out]; simp, HB6.out⟩
          | true =>
            have hal2 : Hid (allN (fun k => decide (X k = Y k)) (k + 1) = true) := Lib.hid (by
              rw [HSN.out, decide_eq_true_eq]
              exact Prod.ext (by simpa using e1) (by simpa using e2))
            refine region_qbw (by kernel_rfl) (by kernel_rfl) ?_
            repeat (first | go_big_quiet_step (fail) | quiet_step (fail))
            refine wpQuiet_nil ?_; intro wq hbq
            have HB6 := Lib.hid (HB5.out.trans (hbq.mono (by omega)))
            clear x0 x1 y0 y1 hbq
            go_wp2_with fail
            go_roundw
            case rel => exact ⟨k + 1, by omega, by go_num, hal2, HB6⟩
            case measure => simp [intOf]; omega
      · obtain rfl : k = n := by omega
        have hge : ¬ (k : Int) < (k : Int) := by omega
        go_wp2_with fail
        go_ret
        exact ⟨by rw [hal.out]; simp, hbw.out⟩
  · have hb : ((n : Int) != (m : Int)) = true := by rw [bne_iff_ne]; omega
    have HN := Lib.hid hnm
    clear hnm
    go_enter Tryz.func47, Tryz.ntmps47
    go_wp2_with fail
    go_ret
    exact ⟨by simp [HN.out], Below.refl _ _⟩
end Go.Proofs.YtmbkngfcbgbeiaaGreat
