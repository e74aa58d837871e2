/- Contracts of the small functions of package lot. -/
import Derived.Test.YtmbkngfcbgbeiaaGreatF
import Derived.Test.YtmbkngfcbgbeiaaGreatP
import Derived.WalkKit
import Derived.WalkSpells
import Derived.WalkLawsBesides
import Derived.Lib.Hide
import Derived.Deep.QuietTactic
import Derived.BigQuiet
import Derived.Deep.RegionHeld3
import Derived.Deep.DrawnRows
import Derived.Laws.EntriesVeiled
namespace Go.Proofs.YtmbkngfcbgbeiaaGreat
open Go.RowKit

theorem ret_int {k : IntKind} {a b : Int} (h : a = b) : Ending.returned (.int k a) = .returned (.int k b) := by rw [h]

theorem below_drewN {B : Nat} {a w : World} (h : Below B a w) (n : Nat) : Below B a (w.drewN n) := ⟨h.os, h.tape, h.output, h.size, h.block⟩
theorem below_via {B : Nat} {a b c : World} (k : Below b.heap.size b c) (hB : B ≤ b.heap.size) (h : Below B a b) : Below B a c := h.trans (k.mono hB)
theorem below_alloc {B : Nat} {a w : World} (hB : B ≤ w.heap.size) (h : Below B a w) (o : Obj) : Below B a (w.alloc o) := h.alloc hB o
theorem below_set {B : Nat} {a w : World} {p : Addr} (hp : B ≤ p.block) (h : Below B a w) (u : Value) : Below B a (w.setCell p u) := h.setCell hp u
theorem bcell {W w1 : World} (hb : Below W.heap.size W w1) : (∀ a, (W.cell? a).isSome = true → w1.cell? a = W.cell? a) ∧ (∀ a, (W.cell? a).isSome = true → w1.frozen? a = W.frozen? a) :=
  ⟨fun a h => by obtain ⟨u, hu⟩ := Option.isSome_iff_exists.1 h; exact hb.cell (World.block_lt_of_cell? W a hu),
   fun a h => by obtain ⟨u, hu⟩ := Option.isSome_iff_exists.1 h; exact hb.frozen (World.block_lt_of_cell? W a hu)⟩
@[go_sem] theorem cell_alloc_some (w : World) (a : Addr) (o : Obj) (h : (w.cell? a).isSome = true) : (w.alloc o).cell? a = w.cell? a := World.cell?_alloc_some w a o h
@[go_sem] theorem frozen_alloc_some (w : World) (a : Addr) (o : Obj) (h : (w.cell? a).isSome = true) : (w.alloc o).frozen? a = w.frozen? a := by
  obtain ⟨u, hu⟩ := Option.isSome_iff_exists.1 h
  exact World.frozen?_alloc_old w o a (Nat.ne_of_lt (World.block_lt_of_cell? w a hu))

/-! ### One step back through a world, for a cell that is there, or that is not frozen -/
section
variable {w w1 : World} {a : Addr} {v : Value}
theorem cell_drew_of (h : w.cell? a = some v) : w.drew.cell? a = some v := h
theorem cell_drewN_of {n : Nat} (h : w.cell? a = some v) : (w.drewN n).cell? a = some v := h
theorem cell_alloc_of (o : Obj) (h : w.cell? a = some v) : (w.alloc o).cell? a = some v := (World.cell?_alloc_some w a o (by rw [h]; rfl)).trans h
theorem cell_new_of {cs : Array Value} {t : TypeId} {n i : Nat} (hn : n = w.heap.size) (h : cs[i]? = some v) : (w.alloc (.cells cs t)).cell? ⟨n, i, none⟩ = some v := by subst hn; simp [h]
theorem fro_new_of {cs : Array Value} {t : TypeId} {n i : Nat} (hn : n = w.heap.size) : (w.alloc (.cells cs t)).frozen? ⟨n, i, none⟩ = false := by subst hn; exact World.frozen?_alloc_new w cs t i
theorem cell_below_of (hb : Below w.heap.size w w1) (h : w.cell? a = some v) : w1.cell? a = some v := ((bcell hb).1 a (by rw [h]; rfl)).trans h
theorem cell_set_of {p : Addr} (u : Value) (hne : p.block ≠ a.block) (h : w.cell? a = some v) : (w.setCell p u).cell? a = some v := (World.cell?_setCell_far w p a u hne).trans h
theorem fro_drew_of (h : w.frozen? a = false) : w.drew.frozen? a = false := h
theorem fro_drewN_of {n : Nat} (h : w.frozen? a = false) : (w.drewN n).frozen? a = false := h
theorem fro_alloc_of (o : Obj) (hl : a.block < w.heap.size) (h : w.frozen? a = false) : (w.alloc o).frozen? a = false := (World.frozen?_alloc_old w o a (Nat.ne_of_lt hl)).trans h
theorem fro_below_of (hb : Below w.heap.size w w1) (hl : a.block < w.heap.size) (h : w.frozen? a = false) : w1.frozen? a = false := (hb.frozen hl).trans h
theorem fro_set_of {p : Addr} (u : Value) (h : w.frozen? a = false) : (w.setCell p u).frozen? a = false := by rw [World.frozen?_setCell]; exact h
end

section
variable (P : Program) (w : World) (ats : Array TypeId) (ty : TypeId) (k k' : IntKind) (a b : Int)
/-- min and max of two integers stay under their names -/
@[go_sem ↓] theorem run_min_int : (Builtin.min_ ats ty #[.int k a, .int k' b]).run P w = .ok (.int k (min a b)) w := by
  have e : (if b < a then b else a) = min a b := by split <;> omega
  simp [Builtin.min_, Builtin.min2, e]
@[go_sem ↓] theorem run_max_int : (Builtin.max_ ats ty #[.int k a, .int k' b]).run P w = .ok (.int k (max a b)) w := by
  have e : (if a < b then b else a) = max a b := by split <;> omega
  simp [Builtin.max_, Builtin.max2, e]
end

/-- lot.in -/
def inB (n lo hi : Int) : Bool := decide (lo ≤ n) && decide (n ≤ hi)

theorem in_any (n lo hi : Int) (w : World) :
    Calls Tryz.prog 67 #[.int .i64 n, .int .i64 lo, .int .i64 hi] w fun e w' => e = .returned (.bool (inB n lo hi)) ∧ w = w' := by
  by_cases h1 : lo ≤ n
  · by_cases h2 : n ≤ hi
    · go_enter Tryz.func67, Tryz.ntmps67
      go_wp2
      go_ret
      exact ⟨by simp [inB]; omega, rfl⟩
    · go_enter Tryz.func67, Tryz.ntmps67
      go_wp2
      go_ret
      exact ⟨by simp [inB]; omega, rfl⟩
  · go_enter Tryz.func67, Tryz.ntmps67
    go_wp2
    go_ret
    exact ⟨by simp [inB]; omega, rfl⟩

set_option maxHeartbeats 400000 in
/-- lot.sum -/
theorem sum_any (b off n c : Nat) (f : Nat → Int) (w : World) (hn : n ≤ 1000) (hf : ∀ k, k < n → -1000000 ≤ f k ∧ f k ≤ 1000000)
    (hc : ∀ k, k < n → w.cell? ⟨b, off + k, none⟩ = some (.int .i64 (f k))) :
    Calls Tryz.prog 59 #[.slice (some ⟨b, off, none⟩) n c] w fun e w' => e = .returned (.int .i64 (sumN f n)) ∧ w = w' := by
  have Hf := Lib.hid hf
  have Hc := Lib.hid hc
  clear hf hc
  go_enter Tryz.func59, Tryz.ntmps59
  go_wp2
  go_loop [3, 5, 8] (fun t u i => ∃ k : Nat, k ≤ n ∧ i = .int .i64 k ∧ t = .int .i64 (sumN f k)) (fun _ _ i => n - (intOf i).toNat)
  case atStart => exact ⟨0, Nat.zero_le _, rfl, rfl⟩
  case round =>
    obtain ⟨k, hk, rfl, rfl⟩ := hrel
    by_cases hlt : k < n
    · have c0 := Hc.out k hlt
      have b0 := Hf.out k hlt
      have b1 := sumN_bd f k (fun j hj => Hf.out j (by omega))
      go_wp2
      go_round
      case rel => exact ⟨k + 1, by omega, by go_num, rfl⟩
      case measure => simp [intOf]; omega
    · go_wp2
      go_ret
      exact ⟨ret_int (by rw [show k = n from by omega]), rfl⟩

end Go.Proofs.YtmbkngfcbgbeiaaGreat
