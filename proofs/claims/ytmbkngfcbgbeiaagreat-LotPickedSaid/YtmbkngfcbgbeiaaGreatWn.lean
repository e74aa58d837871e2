/- list of package lot. -/
import Derived.Test.YtmbkngfcbgbeiaaGreatWm
import Derived.Laws.MakeOwn
import Derived.Laws.CopyOwn
set_option linter.unusedSimpArgs false
set_option linter.unusedVariables false
namespace Go.Proofs.YtmbkngfcbgbeiaaGreat
open Go.RowKit Go.Shelf

theorem heap_new_of {w : World} {o : Obj} {n : Nat} (h : n = w.heap.size) : (w.alloc o).heap[n]? = some o := by subst h; exact World.alloc_heap_new w o
theorem cell_of_row {w : World} {g : Nat} {cs : List Value} {t : TypeId} {f : Nat × Nat} (h : w.heap[g]? = some (.cells cs.toArray t f)) {k : Nat} {v : Value} (hk : cs[k]? = some v) : w.cell? ⟨g, k, none⟩ = some v := by
  unfold World.cell?
  rw [h]
  simpa using hk

set_option maxRecDepth 100000 in
set_option maxHeartbeats 2000000 in
/-- lot.desk.list -/
theorem list_n (n : Nat) (hn1 : 1 ≤ n) (hn : n ≤ 4) (x : Bag) (db : Nat) (pA : Option Addr) (pc : Nat) (W : World) (q0 : W.cell? ⟨db, 0, none⟩ = some (.slice pA n pc)) :
    Calls Tryz.prog 30 #[.pointer (some ⟨db, 0, none⟩), bagV x] W fun e W' =>
      ∃ b, e = .returned (.slice (some ⟨b, 0, none⟩) n n) ∧ W.heap.size ≤ b ∧ IntRow W' W'.heap.size (some ⟨b, 0, none⟩) n x.at ∧ Below W.heap.size W W' := by
  rcases (show n = 1 ∨ n = 2 ∨ n = 3 ∨ n = 4 by omega) with rfl | rfl | rfl | rfl
  · have hmk : ∀ w, (Instr.makeSlice 38 (.int .i64 1) (.int .i64 1)).run Tryz.prog w = .ok (.slice (some ⟨w.heap.size, 0, none⟩) 1 1) (w.alloc (.cells #[.int .i64 0] 3)) := fun _ => by kernel_rfl
    go_enter Tryz.func30, Tryz.ntmps30
    go_wp2_with (refine wpList_copy_splice rfl (.tmp 13) (.tmp 14) 38 38 rfl 3 (by kernel_rfl) (by kernel_rfl) (some ⟨W.heap.size + 1, 0, none⟩) (some ⟨W.heap.size, 0, none⟩) 1 1 4 4 rfl rfl (W.heap.size + 1) 0 [.int .i64 0] 3 ?c1 [.int .i64 x.a] rfl ?c2 (by simp) ?c3 W.heap.size W ?c4 (by omega) ?_)
    case c1 => exact heap_new_of (by simp)
    case c2 =>
      intro j v hj
      match j, hj with
      | 0, hj => exact hj
      | j + 1, hj => simp at hj
    case c3 => intro v hv; simp only [List.mem_cons, List.not_mem_nil, or_false] at hv; rcases hv with rfl <;> rfl
    case c4 => exact (by repeat (first | (with_reducible exact Below.refl _ _) | (with_reducible refine Below.drew ?_) | (with_reducible refine below_drewN ?_ _) | ((with_reducible refine below_alloc ?_ ?_ _); · (first | exact Nat.le_refl _ | omega | (simp; done) | (simp; omega) | (simp at *; omega))) | ((with_reducible refine below_set ?_ ?_ _); · (first | exact Nat.le_refl _ | omega | (simp; done) | (simp; omega) | (simp at *; omega))) | ((with_reducible refine below_via (by with_reducible assumption) ?_ ?_); · (first | exact Nat.le_refl _ | omega | (simp; done) | (simp; omega) | (simp at *; omega)))))
    intro w1 hw1 hb1
    go_wp2_with fail
    go_ret
    refine ⟨W.heap.size + 1, rfl, by omega, fun k hk => ?_, hb1⟩
    have hs1 : W.heap.size + 1 < w1.heap.size := (Array.getElem?_eq_some_iff.1 hw1.out).1
    refine ⟨W.heap.size + 1, 0, rfl, hs1, ?_⟩
    match k, hk with
    | 0, _ => exact cell_of_row hw1.out rfl
    | j + 1, h => exact absurd h (by omega)
  · have hmk : ∀ w, (Instr.makeSlice 38 (.int .i64 2) (.int .i64 2)).run Tryz.prog w = .ok (.slice (some ⟨w.heap.size, 0, none⟩) 2 2) (w.alloc (.cells #[.int .i64 0, .int .i64 0] 3)) := fun _ => by kernel_rfl
    go_enter Tryz.func30, Tryz.ntmps30
    go_wp2_with (refine wpList_copy_splice rfl (.tmp 13) (.tmp 14) 38 38 rfl 3 (by kernel_rfl) (by kernel_rfl) (some ⟨W.heap.size + 1, 0, none⟩) (some ⟨W.heap.size, 0, none⟩) 2 2 4 4 rfl rfl (W.heap.size + 1) 0 [.int .i64 0, .int .i64 0] 3 ?c1 [.int .i64 x.a, .int .i64 x.b] rfl ?c2 (by simp) ?c3 W.heap.size W ?c4 (by omega) ?_)
    case c1 => exact heap_new_of (by simp)
    case c2 =>
      intro j v hj
      match j, hj with
      | 0, hj => exact hj
      | 1, hj => exact hj
      | j + 2, hj => simp at hj
    case c3 => intro v hv; simp only [List.mem_cons, List.not_mem_nil, or_false] at hv; rcases hv with rfl | rfl <;> rfl
    case c4 => exact (by repeat (first | (with_reducible exact Below.refl _ _) | (with_reducible refine Below.drew ?_) | (with_reducible refine below_drewN ?_ _) | ((with_reducible refine below_alloc ?_ ?_ _); · (first | exact Nat.le_refl _ | omega | (simp; done) | (simp; omega) | (simp at *; omega))) | ((with_reducible refine below_set ?_ ?_ _); · (first | exact Nat.le_refl _ | omega | (simp; done) | (simp; omega) | (simp at *; omega))) | ((with_reducible refine below_via (by with_reducible assumption) ?_ ?_); · (first | exact Nat.le_refl _ | omega | (simp; done) | (simp; omega) | (simp at *; omega)))))
    intro w1 hw1 hb1
    go_wp2_with fail
    go_ret
    refine ⟨W.heap.size + 1, rfl, by omega, fun k hk => ?_, hb1⟩
    have hs1 : W.heap.size + 1 < w1.heap.size := (Array.getElem?_eq_some_iff.1 hw1.out).1
    refine ⟨W.heap.size + 1, 0, rfl, hs1, ?_⟩
    match k, hk with
    | 0, _ => exact cell_of_row hw1.out rfl
    | 1, _ => exact cell_of_row hw1.out rfl
    | j + 2, h => exact absurd h (by omega)
  · have hmk : ∀ w, (Instr.makeSlice 38 (.int .i64 3) (.int .i64 3)).run Tryz.prog w = .ok (.slice (some ⟨w.heap.size, 0, none⟩) 3 3) (w.alloc (.cells #[.int .i64 0, .int .i64 0, .int .i64 0] 3)) := fun _ => by kernel_rfl
    go_enter Tryz.func30, Tryz.ntmps30
    go_wp2_with (refine wpList_copy_splice rfl (.tmp 13) (.tmp 14) 38 38 rfl 3 (by kernel_rfl) (by kernel_rfl) (some ⟨W.heap.size + 1, 0, none⟩) (some ⟨W.heap.size, 0, none⟩) 3 3 4 4 rfl rfl (W.heap.size + 1) 0 [.int .i64 0, .int .i64 0, .int .i64 0] 3 ?c1 [.int .i64 x.a, .int .i64 x.b, .int .i64 x.c] rfl ?c2 (by simp) ?c3 W.heap.size W ?c4 (by omega) ?_)
    case c1 => exact heap_new_of (by simp)
    case c2 =>
      intro j v hj
      match j, hj with
      | 0, hj => exact hj
      | 1, hj => exact hj
      | 2, hj => exact hj
      | j + 3, hj => simp at hj
    case c3 => intro v hv; simp only [List.mem_cons, List.not_mem_nil, or_false] at hv; rcases hv with rfl | rfl | rfl <;> rfl
    case c4 => exact (by repeat (first | (with_reducible exact Below.refl _ _) | (with_reducible refine Below.drew ?_) | (with_reducible refine below_drewN ?_ _) | ((with_reducible refine below_alloc ?_ ?_ _); · (first | exact Nat.le_refl _ | omega | (simp; done) | (simp; omega) | (simp at *; omega))) | ((with_reducible refine below_set ?_ ?_ _); · (first | exact Nat.le_refl _ | omega | (simp; done) | (simp; omega) | (simp at *; omega))) | ((with_reducible refine below_via (by with_reducible assumption) ?_ ?_); · (first | exact Nat.le_refl _ | omega | (simp; done) | (simp; omega) | (simp at *; omega)))))
    intro w1 hw1 hb1
    go_wp2_with fail
    go_ret
    refine ⟨W.heap.size + 1, rfl, by omega, fun k hk => ?_, hb1⟩
    have hs1 : W.heap.size + 1 < w1.heap.size := (Array.getElem?_eq_some_iff.1 hw1.out).1
    refine ⟨W.heap.size + 1, 0, rfl, hs1, ?_⟩
    match k, hk with
    | 0, _ => exact cell_of_row hw1.out rfl
    | 1, _ => exact cell_of_row hw1.out rfl
    | 2, _ => exact cell_of_row hw1.out rfl
    | j + 3, h => exact absurd h (by omega)
  · have hmk : ∀ w, (Instr.makeSlice 38 (.int .i64 4) (.int .i64 4)).run Tryz.prog w = .ok (.slice (some ⟨w.heap.size, 0, none⟩) 4 4) (w.alloc (.cells #[.int .i64 0, .int .i64 0, .int .i64 0, .int .i64 0] 3)) := fun _ => by kernel_rfl
    go_enter Tryz.func30, Tryz.ntmps30
    go_wp2_with (refine wpList_copy_splice rfl (.tmp 13) (.tmp 14) 38 38 rfl 3 (by kernel_rfl) (by kernel_rfl) (some ⟨W.heap.size + 1, 0, none⟩) (some ⟨W.heap.size, 0, none⟩) 4 4 4 4 rfl rfl (W.heap.size + 1) 0 [.int .i64 0, .int .i64 0, .int .i64 0, .int .i64 0] 3 ?c1 [.int .i64 x.a, .int .i64 x.b, .int .i64 x.c, .int .i64 x.d] rfl ?c2 (by simp) ?c3 W.heap.size W ?c4 (by omega) ?_)
    case c1 => exact heap_new_of (by simp)
    case c3 => intro v hv; simp only [List.mem_cons, List.not_mem_nil, or_false] at hv; rcases hv with rfl | rfl | rfl | rfl <;> rfl
    case c4 => exact (by repeat (first | (with_reducible exact Below.refl _ _) | (with_reducible refine Below.drew ?_) | (with_reducible refine below_drewN ?_ _) | ((with_reducible refine below_alloc ?_ ?_ _); · (first | exact Nat.le_refl _ | omega | (simp; done) | (simp; omega) | (simp at *; omega))) | ((with_reducible refine below_set ?_ ?_ _); · (first | exact Nat.le_refl _ | omega | (simp; done) | (simp; omega) | (simp at *; omega))) | ((with_reducible refine below_via (by with_reducible assumption) ?_ ?_); · (first | exact Nat.le_refl _ | omega | (simp; done) | (simp; omega) | (simp at *; omega)))))
    intro w1 hw1 hb1
    go_wp2_with fail
    go_ret
    refine ⟨W.heap.size + 1, rfl, by omega, fun k hk => ?_, hb1⟩
    have hs1 : W.heap.size + 1 < w1.heap.size := (Array.getElem?_eq_some_iff.1 hw1.out).1
    refine ⟨W.heap.size + 1, 0, rfl, hs1, ?_⟩
    match k, hk with
    | 0, _ => exact cell_of_row hw1.out rfl
    | 1, _ => exact cell_of_row hw1.out rfl
    | 2, _ => exact cell_of_row hw1.out rfl
    | 3, _ => exact cell_of_row hw1.out rfl
    | j + 4, h => exact absurd h (by omega)
theorem eq_int (d : Nat) (a b : Int) (w : World) : (Op.equalIn (d + 1) 3 (.int .i64 a) (.int .i64 b)).run Tryz.prog w = .ok (a == b) w := by
  rw [Op.equalIn]
  have hu : (underlying 3).run Tryz.prog w = .ok (.int .i64) w := by kernel_rfl
  simp [Sem.run_bind, hu, Result.andThen]
theorem eq_bag (a b c d a' b' c' d' : Int) (w : World) : (Op.equalIn 10000 89 (.agg #[.int .i64 a, .int .i64 b, .int .i64 c, .int .i64 d]) (.agg #[.int .i64 a', .int .i64 b', .int .i64 c', .int .i64 d'])).run Tryz.prog w =
   .ok ((a == a') && (b == b') && (c == c') && (d == d')) w := by
  rw [show (10000 : Nat) = 9998 + 1 + 1 from rfl, Op.equalIn]
  have hu : ∀ w, (underlying 89).run Tryz.prog w = .ok (.array 4 3) w := fun _ => by kernel_rfl
  have hs : ∀ w, (sizeOf 3).run Tryz.prog w = .ok 1 w := fun _ => by kernel_rfl
  have hp : ∀ (x0 x1 x2 x3 : Int) w, (part 3 #[.int .i64 x0, .int .i64 x1, .int .i64 x2, .int .i64 x3] 0).run Tryz.prog w = .ok (.int .i64 x0) w := fun _ _ _ _ _ => by kernel_rfl
  have hp1 : ∀ (x0 x1 x2 x3 : Int) w, (part 3 #[.int .i64 x0, .int .i64 x1, .int .i64 x2, .int .i64 x3] 1).run Tryz.prog w = .ok (.int .i64 x1) w := fun _ _ _ _ _ => by kernel_rfl
  have hp2 : ∀ (x0 x1 x2 x3 : Int) w, (part 3 #[.int .i64 x0, .int .i64 x1, .int .i64 x2, .int .i64 x3] 2).run Tryz.prog w = .ok (.int .i64 x2) w := fun _ _ _ _ _ => by kernel_rfl
  have hp3 : ∀ (x0 x1 x2 x3 : Int) w, (part 3 #[.int .i64 x0, .int .i64 x1, .int .i64 x2, .int .i64 x3] 3).run Tryz.prog w = .ok (.int .i64 x3) w := fun _ _ _ _ _ => by kernel_rfl
  simp only [Sem.run_bind, hu, hs, Result.andThen_ok]
  simp only [Std.Legacy.Range.forIn_eq_forIn_range', Std.Legacy.Range.size]
  simp only [Nat.sub_zero, Nat.add_sub_cancel, Nat.div_one, List.range', List.forIn_cons, List.forIn_nil, Sem.run_bind, Nat.mul_one, Nat.zero_add, hp, hp1, hp2, hp3, Result.andThen_ok, eq_int]
  cases h1 : a == a' <;> cases h2 : b == b' <;> cases h3 : c == c' <;> cases h4 : d == d' <;> simp [Sem.run_bind, hp, hp1, hp2, hp3, eq_int, h1, h2, h3, h4, Result.andThen_ok, -beq_eq_false_iff_ne, -beq_iff_eq]
theorem eq_bagZ (o : Bag) (w : World) : (Op.equalIn 10000 89 (bagV o) (.agg #[.int .i64 0, .int .i64 0, .int .i64 0, .int .i64 0])).run Tryz.prog w = .ok (decide (o = bagZ)) w := by
  rw [eq_bag]
  congr 1
  rw [Bool.eq_iff_iff]
  simp only [Bool.and_eq_true, beq_iff_eq, decide_eq_true_eq]
  obtain ⟨a, b, c, d⟩ := o
  unfold bagZ
  simp [and_assoc]
end Go.Proofs.YtmbkngfcbgbeiaaGreat
