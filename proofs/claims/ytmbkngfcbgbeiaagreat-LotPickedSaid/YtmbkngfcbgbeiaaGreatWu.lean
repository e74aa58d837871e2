/- slices.Min and slices.Max of numbers. -/
import Derived.Test.YtmbkngfcbgbeiaaGreatWp
set_option linter.unusedSimpArgs false
set_option linter.unusedVariables false
namespace Go.Proofs.YtmbkngfcbgbeiaaGreat
open Go.RowKit Go.Shelf

def minN (X : Nat → Int) : Nat → Int
  | 0 => X 0
  | k + 1 => min (minN X k) (X (k + 1))
def maxN (X : Nat → Int) : Nat → Int
  | 0 => X 0
  | k + 1 => max (maxN X k) (X (k + 1))

set_option maxRecDepth 100000 in
set_option maxHeartbeats 1000000 in
theorem Min_any (A : Option Addr) (n c : Nat) (X : Nat → Int) (W : World) (hl : IntRow W W.heap.size A (n + 1) X) (hn : n ≤ 1000) :
    Calls Tryz.prog 76 #[.slice A ((n + 1 : Nat)) c] W fun e w' => e = .returned (.int .i64 (minN X n)) ∧ W = w' := by
  have HL := Lib.hid hl
  obtain ⟨b, o, rfl, hb, c0⟩ := hl 0 (by omega)
  clear hl
  have h1 : decide (((n + 1 : Nat) : Int) < 1) = false := by simp; omega
  have c0' : W.cell? ⟨b, o, none⟩ = some (.int .i64 (X 0)) := c0
  clear c0
  have h0 : (0 : Int) < ((n + 1 : Nat) : Int) := by omega
  go_enter Tryz.func76, Tryz.ntmps76
  go_wp2_with fail
  go_loop [3, 4] (fun t i => ∃ k : Nat, k ≤ n ∧ i = .int .i64 ((k : Int) + 1) ∧ t = .int .i64 (minN X k)) (fun _ i => n + 1 - (intOf i).toNat)
  case atStart => exact ⟨0, Nat.zero_le _, rfl, rfl⟩
  case round =>
    obtain ⟨k, hk, rfl, rfl⟩ := hrel
    by_cases hlt : k < n
    · obtain ⟨b', o', hA, hb', c1⟩ := HL.out (k + 1) (by omega)
      obtain ⟨rfl, rfl⟩ : b = b' ∧ o = o' := by injection hA with h; injection h with h1 h2; exact ⟨h1, h2⟩
      clear hA
      have hlt1 : (k : Int) + 1 < ((n + 1 : Nat) : Int) := by omega
      have et : ((k : Int) + 1).toNat = k + 1 := by omega
      go_wp2_with fail
      go_round
      case rel => exact ⟨k + 1, by omega, by go_num, rfl⟩
      case measure => simp [intOf]; omega
    · have hge : ¬ (k : Int) + 1 < ((n + 1 : Nat) : Int) := by omega
      go_wp2_with fail
      go_ret
      exact ⟨ret_int (by rw [show k = n from by omega]), rfl⟩

set_option maxRecDepth 100000 in
set_option maxHeartbeats 1000000 in
theorem Max_any (A : Option Addr) (n c : Nat) (X : Nat → Int) (W : World) (hl : IntRow W W.heap.size A (n + 1) X) (hn : n ≤ 1000) :
    Calls Tryz.prog 77 #[.slice A ((n + 1 : Nat)) c] W fun e w' => e = .returned (.int .i64 (maxN X n)) ∧ W = w' := by
  have HL := Lib.hid hl
  obtain ⟨b, o, rfl, hb, c0⟩ := hl 0 (by omega)
  clear hl
  have h1 : decide (((n + 1 : Nat) : Int) < 1) = false := by simp; omega
  have c0' : W.cell? ⟨b, o, none⟩ = some (.int .i64 (X 0)) := c0
  clear c0
  have h0 : (0 : Int) < ((n + 1 : Nat) : Int) := by omega
  go_enter Tryz.func77, Tryz.ntmps77
  go_wp2_with fail
  go_loop [3, 4] (fun t i => ∃ k : Nat, k ≤ n ∧ i = .int .i64 ((k : Int) + 1) ∧ t = .int .i64 (maxN X k)) (fun _ i => n + 1 - (intOf i).toNat)
  case atStart => exact ⟨0, Nat.zero_le _, rfl, rfl⟩
  case round =>
    obtain ⟨k, hk, rfl, rfl⟩ := hrel
    by_cases hlt : k < n
    · obtain ⟨b', o', hA, hb', c1⟩ := HL.out (k + 1) (by omega)
      obtain ⟨rfl, rfl⟩ : b = b' ∧ o = o' := by injection hA with h; injection h with h1 h2; exact ⟨h1, h2⟩
      clear hA
      have hlt1 : (k : Int) + 1 < ((n + 1 : Nat) : Int) := by omega
      have et : ((k : Int) + 1).toNat = k + 1 := by omega
      go_wp2_with fail
      go_round
      case rel => exact ⟨k + 1, by omega, by go_num, rfl⟩
      case measure => simp [intOf]; omega
    · have hge : ¬ (k : Int) + 1 < ((n + 1 : Nat) : Int) := by omega
      go_wp2_with fail
      go_ret
      exact ⟨ret_int (by rw [show k = n from by omega]), rfl⟩
end Go.Proofs.YtmbkngfcbgbeiaaGreat
