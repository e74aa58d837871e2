/- Wrap. -/
import Derived.Test.YtnnikeolgknfoaaJa
set_option linter.unusedSimpArgs false
set_option linter.unusedVariables false
namespace Go.Proofs.Ytnnikeolgknfoaa
open Go.RowKit Go.Shelf

set_option maxRecDepth 100000 in
set_option maxHeartbeats 400000 in
theorem wrap_any (v n : Int) (hn : n ≤ 1000) (W : World) :
    Calls Try.prog 22 #[.int .i64 v, .int .i64 n] W fun e W' => ∃ k : Int, e = .returned (.int .i64 k) ∧ 0 ≤ k ∧ (k < n ∨ k = 0) ∧ W = W' := by
  by_cases h1 : n < 1
  · go_enter Try.func22, Try.ntmps22
    go_wp2_with fail
    go_ret
    exact ⟨0, rfl, by omega, .inr rfl, rfl⟩
  · have h2 : 1 ≤ n := by omega
    have hne : (n == 0) = false := by rw [beq_eq_false_iff_ne]; omega
    have hb : -n < v.tmod n ∧ v.tmod n < n := by
      have h3 := Int.tmod_lt_of_pos v (show 0 < n by omega)
      have h4 : -n < v.tmod n := by
        have h5 := Int.tmod_lt_of_pos (-v) (show 0 < n by omega)
        rw [Int.neg_tmod] at h5
        omega
      exact ⟨h4, h3⟩
    have HB := Lib.hid hb
    have ew : IntKind.i64.wrap (v.tmod n) = v.tmod n := IntWalk.i64_in _ (by omega)
    by_cases h3 : v.tmod n < 0
    · have ew2 : IntKind.i64.wrap (v.tmod n + n) = v.tmod n + n := IntWalk.i64_in _ (by omega)
      clear hb
      go_enter Try.func22, Try.ntmps22
      go_wp2_with fail
      go_ret
      have := HB.out
      exact ⟨_, rfl, by omega, .inl (by omega), rfl⟩
    · clear hb
      go_enter Try.func22, Try.ntmps22
      go_wp2_with fail
      go_ret
      have := HB.out
      exact ⟨_, rfl, by omega, .inl (by omega), rfl⟩
end Go.Proofs.Ytnnikeolgknfoaa
