/- slices.Compare at numbers; bits of a number. -/
import Derived.Test.YtnnikeolgknfoaaGreatC3
set_option linter.unusedSimpArgs false
set_option linter.unusedVariables false
namespace Go.Proofs.YtnnikeolgknfoaaGreat
open Go.RowKit Go.Shelf

theorem shrN (s i : Nat) (hi : i ≤ 64) (w : World) : (binOp .shr 3 (.int .i64 (s : Int)) (.int .i64 (i : Int))).run Tryz.prog w = .ok (.int .i64 ((s / 2 ^ i : Nat) : Int)) w := by
  first | (simp [go_sem]; done) | (simp [go_sem]; rw [Nat.min_eq_left hi])
theorem andN (x : Nat) (hx : x < 2 ^ 20) (w : World) : (binOp .and 3 (.int .i64 (x : Int)) (.int .i64 1)).run Tryz.prog w = .ok (.int .i64 ((x % 2 : Nat) : Int)) w := by
  simp [go_sem]
  have h := bits_mask .i64 63 (by decide) (fun n h0 h1 => IntWalk.i64_in _ (by omega)) 1 (by decide) (x : Int) (by omega) (by omega)
  simpa using h
theorem shlN (m : Nat) (hm : m ≤ 10) (w : World) : (binOp .shl 3 (.int .i64 1) (.int .i64 (m : Int))).run Tryz.prog w = .ok (.int .i64 ((2 ^ m : Nat) : Int)) w := by
  have h : 2 ^ m ≤ 2 ^ 10 := Nat.pow_le_pow_right (by decide) hm
  simp [go_sem]
  obtain ⟨p, hp⟩ : ∃ p : Nat, p = 2 ^ m := ⟨_, rfl⟩
  have e : (2 : Int) ^ m = (p : Int) := by simp [hp]
  rw [← hp] at h
  rw [e]
  exact IntWalk.i64_in _ (by omega)
theorem shlW (m p : Nat) (hp : p = 2 ^ m) (h : p ≤ 1024) : IntKind.i64.wrap ((2 : Int) ^ m) = (p : Int) := by
  have e : (2 : Int) ^ m = (p : Int) := by simp [hp]
  rw [e]
  exact IntWalk.i64_in _ (by omega)
theorem bitW (s k : Nat) (hs : s < 2 ^ 20) : bits BinOp.and IntKind.i64 ((s : Int) / 2 ^ k) 1 = if s.testBit k = true then 1 else 0 := by
  have hle : s / 2 ^ k ≤ s := Nat.div_le_self _ _
  have e : (s : Int) / 2 ^ k = ((s / 2 ^ k : Nat) : Int) := by simp
  have hb : s.testBit k = decide (s / 2 ^ k % 2 = 1) := Nat.testBit_eq_decide_div_mod_eq
  rw [e, hb]
  obtain ⟨z, hz⟩ : ∃ z, z = s / 2 ^ k := ⟨_, rfl⟩
  rw [← hz] at hle ⊢
  have h := bits_mask .i64 63 (by decide) (fun n h0 h1 => IntWalk.i64_in _ (by omega)) 1 (by decide) (z : Int) (by omega) (by omega)
  have h2 : bits BinOp.and IntKind.i64 (z : Int) 1 = (z : Int) % 2 := by simpa using h
  rw [h2]
  by_cases h1 : z % 2 = 1
  · simp [h1]; omega
  · simp [h1]; omega
theorem bitN (s k : Nat) : s.testBit k = decide (s / 2 ^ k % 2 = 1) := Nat.testBit_eq_decide_div_mod_eq

set_option maxHeartbeats 400000 in
theorem isNaN_any (a : Int) (W : World) : Calls Tryz.prog 151 #[.int .i64 a] W fun e W' => e = .returned (.bool false) ∧ W = W' := by
  have hb : (a != a) = false := by simp
  go_enter Tryz.func151, Tryz.ntmps151
  go_wp2_with fail
  go_ret
  exact ⟨rfl, rfl⟩
def cmpZ (a b : Int) : Int := if a < b then -1 else if b < a then 1 else 0
set_option maxHeartbeats 400000 in
theorem cmp_any (a b : Int) (W : World) : Calls Tryz.prog 128 #[.int .i64 a, .int .i64 b] W fun e W' => e = .returned (.int .i64 (cmpZ a b)) ∧ W = W' := by
  by_cases h1 : a < b
  · have HF : Hid (cmpZ a b = -1) := Lib.hid (by unfold cmpZ; rw [if_pos h1])
    go_enter Tryz.func128, Tryz.ntmps128
    go_wp2_with (go_at_call 151; refine (isNaN_any _ _).mono ?_; rintro e w' ⟨rfl, rfl⟩)
    go_ret
    exact ⟨by rw [HF.out]; rfl, rfl⟩
  · by_cases h2 : b < a
    · have HF : Hid (cmpZ a b = 1) := Lib.hid (by unfold cmpZ; rw [if_neg h1, if_pos h2])
      go_enter Tryz.func128, Tryz.ntmps128
      go_wp2_with (go_at_call 151; refine (isNaN_any _ _).mono ?_; rintro e w' ⟨rfl, rfl⟩)
      go_ret
      exact ⟨by rw [HF.out]; rfl, rfl⟩
    · have HF : Hid (cmpZ a b = 0) := Lib.hid (by unfold cmpZ; rw [if_neg h1, if_neg h2])
      go_enter Tryz.func128, Tryz.ntmps128
      go_wp2_with (go_at_call 151; refine (isNaN_any _ _).mono ?_; rintro e w' ⟨rfl, rfl⟩)
      go_ret
      exact ⟨by rw [HF.out]; rfl, rfl⟩
/-- the first difference of the first so many numbers -/
def cmpN (X Y : Nat → Int) : Nat → Int
  | 0 => 0
  | k + 1 => if cmpN X Y k = 0 then cmpZ (X k) (Y k) else cmpN X Y k
theorem cmpN_stop {X Y : Nat → Int} {k : Nat} (h : cmpN X Y k ≠ 0) : ∀ d, cmpN X Y (k + d) = cmpN X Y k
  | 0 => rfl
  | d + 1 => by
    rw [← Nat.add_assoc]
    show (if cmpN X Y (k + d) = 0 then _ else _) = _
    rw [cmpN_stop h d, if_neg h]
set_option maxRecDepth 100000 in
set_option maxHeartbeats 1000000 in
theorem compare_any (A C : Option Addr) (n ca cc : Nat) (X Y : Nat → Int) (W : World) (hA : IntRow W W.heap.size A n X) (hC : IntRow W W.heap.size C n Y) (hn : n ≤ 1000) :
    Calls Tryz.prog 75 #[.slice A n ca, .slice C n cc] W fun e W' => e = .returned (.int .i64 (cmpN X Y n)) ∧ W = W' := by
  have HA := Lib.hid hA
  have HC := Lib.hid hC
  clear hA hC
  go_enter Tryz.func75, Tryz.ntmps75
  go_wp2_with fail
  go_loopw [11] (fun i wr => ∃ k : Nat, k ≤ n ∧ i = .int .i64 k ∧ Hid (cmpN X Y k = 0) ∧ wr = W) (fun i _ => n - (intOf i).toNat)
  case atStart => exact ⟨0, Nat.zero_le _, rfl, Lib.hid rfl, rfl⟩
  case round =>
    obtain ⟨k, hk, rfl, HZ, rfl⟩ := hrel
    by_cases hlt : k < n
    · obtain ⟨b, o, rfl, hb1, c0⟩ := HA.out k hlt
      obtain ⟨b', o', rfl, hb2, d0⟩ := HC.out k hlt
      have hk0 : (0 : Int) ≤ (k : Int) := by omega
      have hkn : (k : Int) < (n : Int) := by omega
      have HS : Hid (cmpN X Y (k + 1) = cmpZ (X k) (Y k)) := Lib.hid (by unfold cmpN; rw [if_pos HZ.out])
      go_wp2_with fail
      refine (cmp_any _ _ _).mono ?_
      rintro e w1 ⟨rfl, rfl⟩
      obtain ⟨z, hz⟩ : ∃ z, z = cmpZ (X k) (Y k) := ⟨_, rfl⟩
      rw [← hz] at HS ⊢
      clear hz
      by_cases h0 : z = 0
      · subst h0
        go_wp2_with fail
        go_roundw
        case rel => exact ⟨k + 1, by omega, by go_num, HS, trivial⟩
        case measure => simp [intOf]; omega
      · have hne : (z != 0) = true := by simpa using h0
        have HV : Hid (cmpN X Y n = z) := Lib.hid (by
          have h := cmpN_stop (X := X) (Y := Y) (k := k + 1) (by rw [HS.out]; exact h0) (n - (k + 1))
          rw [show k + 1 + (n - (k + 1)) = n by omega] at h
          rw [h, HS.out])
        clear h0
        go_wp2_with fail
        go_ret
        exact ⟨by rw [HV.out]; rfl, rfl⟩
    · obtain rfl : k = n := by omega
      have hge : ¬ (k : Int) < (k : Int) := by omega
      go_wp2_with fail
      go_ret
      exact ⟨by rw [HZ.out]; rfl, rfl⟩
end Go.Proofs.YtnnikeolgknfoaaGreat
