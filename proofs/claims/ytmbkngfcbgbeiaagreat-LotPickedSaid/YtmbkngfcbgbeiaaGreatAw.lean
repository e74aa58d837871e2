/- awake. -/
import Derived.Test.YtmbkngfcbgbeiaaGreatK
set_option linter.unusedSimpArgs false
set_option linter.unusedVariables false
namespace Go.Proofs.YtmbkngfcbgbeiaaGreat
open Go.RowKit Go.Shelf

set_option maxRecDepth 100000 in
set_option maxHeartbeats 1000000 in
theorem span_fn (lo hi : Int) (W : World) : Calls Tryz.prog 40 #[.int .i64 lo, .int .i64 hi] W fun e W' => e = .returned (.agg #[.int .i64 lo, .int .i64 hi]) ∧ Below W.heap.size W W' := by
  go_enter Tryz.func40, Tryz.ntmps40
  go_wp2
  exact bodyPost_ret (v := .agg #[.int .i64 lo, .int .i64 hi]) (by simp [results, Tryz.results40, go_sem]) rfl ⟨rfl, (by repeat (first | (with_reducible exact Below.refl _ _) | (with_reducible refine Below.drew ?_) | (with_reducible refine below_drewN ?_ _) | ((with_reducible refine below_alloc ?_ ?_ _); · (first | exact Nat.le_refl _ | omega | (simp; done) | (simp; omega) | (simp at *; omega))) | ((with_reducible refine below_set ?_ ?_ _); · (first | exact Nat.le_refl _ | omega | (simp; done) | (simp; omega) | (simp at *; omega))) | ((with_reducible refine below_via (by with_reducible assumption) ?_ ?_); · (first | exact Nat.le_refl _ | omega | (simp; done) | (simp; omega) | (simp at *; omega)))))⟩
/-- three numbers laid by buildSlice -/
theorem row3 {W : World} {a b c : Int} {g : Nat} (h : W.cell? ⟨g, 0, none⟩ = some (.int .i64 a) ∧ W.cell? ⟨g, 1, none⟩ = some (.int .i64 b) ∧ W.cell? ⟨g, 2, none⟩ = some (.int .i64 c)) : IntRow W W.heap.size (some ⟨g, 0, none⟩) 3 (lst [a, b, c]) := fun k hk => by
  refine ⟨g, 0, rfl, World.block_lt_of_cell? W _ h.1, ?_⟩
  match k, hk with
  | 0, _ => exact h.1
  | 1, _ => exact h.2.1
  | 2, _ => exact h.2.2
  | k + 3, h => exact absurd h (by omega)

theorem foul3 (pb gb : Nat) (W : World) (B : Nat) (hs : StRow W B st3 (some ⟨pb, 0, none⟩) 3 (some ⟨gb, 0, none⟩) 2) : Calls Tryz.prog 35 #[stV (some ⟨pb, 0, none⟩) 3 3 (some ⟨gb, 0, none⟩) 2 2 2, .int .i64 2] W fun e W' => e = .returned (.tuple #[.agg #[.int .i64 1, .int .i64 2], .int .i64 0]) ∧ Below W.heap.size W W' := by
  have h := Foul_any st3 B _ _ 3 2 2 W hs
  rw [st3_foul] at h
  exact h

theorem pays3 (pb gb : Nat) (W : World) (B : Nat) (hs : StRow W B st3 (some ⟨pb, 0, none⟩) 3 (some ⟨gb, 0, none⟩) 2) : Calls Tryz.prog 46 #[stV (some ⟨pb, 0, none⟩) 3 3 (some ⟨gb, 0, none⟩) 2 2 2, .int .i64 1, .int .i64 4] W fun e W' => e = .returned (.tuple #[.agg #[.int .i64 60, .int .i64 69], .int .i64 0]) ∧ Below W.heap.size W W' := by
  have h := Pays_any st3 B _ _ 3 2 1 4 W hs
  rw [st3_pays] at h
  exact h

theorem span3 (pb gb : Nat) (W : World) (B : Nat) (hs : StRow W B st3 (some ⟨pb, 0, none⟩) 3 (some ⟨gb, 0, none⟩) 2) (g : Nat) (hl : W.cell? ⟨g, 0, none⟩ = some (.int .i64 4) ∧ W.cell? ⟨g, 1, none⟩ = some (.int .i64 6) ∧ W.cell? ⟨g, 2, none⟩ = some (.int .i64 3)) : Calls Tryz.prog 37 #[stV (some ⟨pb, 0, none⟩) 3 3 (some ⟨gb, 0, none⟩) 2 2 2, .slice (some ⟨g, 0, none⟩) 3 3] W fun e W' => e = .returned (.tuple #[.agg #[.int .i64 1, .int .i64 5], .int .i64 0]) ∧ Below W.heap.size W W' := by
  have h := Span_any st3 B _ _ 3 2 _ 3 3 _ W hs (row3 hl) (by decide)
  rw [st3_span] at h
  exact h

theorem sure3 (pb gb : Nat) (W : World) (B : Nat) (hs : StRow W B st3 (some ⟨pb, 0, none⟩) 3 (some ⟨gb, 0, none⟩) 2) (g : Nat) (hl : W.cell? ⟨g, 0, none⟩ = some (.int .i64 4) ∧ W.cell? ⟨g, 1, none⟩ = some (.int .i64 6) ∧ W.cell? ⟨g, 2, none⟩ = some (.int .i64 0)) : Calls Tryz.prog 17 #[stV (some ⟨pb, 0, none⟩) 3 3 (some ⟨gb, 0, none⟩) 2 2 2, .slice (some ⟨g, 0, none⟩) 3 3] W fun e W' => e = .returned (.tuple #[.int .i64 1, .int .i64 0]) ∧ Below W.heap.size W W' := by
  have h := Sure_any st3 B _ _ 3 2 _ 3 3 _ W hs (row3 hl) (by decide)
  rw [st3_sure] at h
  exact h

theorem brings3 (pb gb : Nat) (W : World) (B : Nat) (hs : StRow W B st3 (some ⟨pb, 0, none⟩) 3 (some ⟨gb, 0, none⟩) 2) (g : Nat) (hl : W.cell? ⟨g, 0, none⟩ = some (.int .i64 0) ∧ W.cell? ⟨g, 1, none⟩ = some (.int .i64 6) ∧ W.cell? ⟨g, 2, none⟩ = some (.int .i64 1)) : Calls Tryz.prog 27 #[stV (some ⟨pb, 0, none⟩) 3 3 (some ⟨gb, 0, none⟩) 2 2 2, .slice (some ⟨g, 0, none⟩) 3 3] W fun e W' => e = .returned (.tuple #[.int .i64 42, .int .i64 0]) ∧ Below W.heap.size W W' := by
  have h := Brings_any st3 B _ _ 3 2 _ 3 3 _ W hs (row3 hl) (by decide)
  rw [st3_brings] at h
  exact h

theorem spare3 (pb gb : Nat) (W : World) (B : Nat) (hs : StRow W B st3 (some ⟨pb, 0, none⟩) 3 (some ⟨gb, 0, none⟩) 2) (g : Nat) (hl : W.cell? ⟨g, 0, none⟩ = some (.int .i64 0) ∧ W.cell? ⟨g, 1, none⟩ = some (.int .i64 2) ∧ W.cell? ⟨g, 2, none⟩ = some (.int .i64 0)) : Calls Tryz.prog 39 #[stV (some ⟨pb, 0, none⟩) 3 3 (some ⟨gb, 0, none⟩) 2 2 2, .slice (some ⟨g, 0, none⟩) 3 3, .int .i64 1, .int .i64 1] W fun e W' => e = .returned (.tuple #[.int .i64 4, .int .i64 0]) ∧ Below W.heap.size W W' := by
  have h := Spare_any st3 B _ _ 3 2 _ 3 3 _ 1 1 W hs (row3 hl) (by decide)
  rw [st3_spare] at h
  exact h

theorem kept3 (pb gb : Nat) (W : World) (B : Nat) (hs : StRow W B st3 (some ⟨pb, 0, none⟩) 3 (some ⟨gb, 0, none⟩) 2) (g : Nat) (hl : W.cell? ⟨g, 0, none⟩ = some (.int .i64 4) ∧ W.cell? ⟨g, 1, none⟩ = some (.int .i64 6) ∧ W.cell? ⟨g, 2, none⟩ = some (.int .i64 0)) : Calls Tryz.prog 42 #[stV (some ⟨pb, 0, none⟩) 3 3 (some ⟨gb, 0, none⟩) 2 2 2, .slice (some ⟨g, 0, none⟩) 3 3, .int .i64 5, .int .i64 2] W fun e W' => e = .returned (.tuple #[.bool false, .int .i64 0]) ∧ Below W.heap.size W W' := by
  have h := Kept_any st3 B _ _ 3 2 _ 3 3 _ 5 2 W hs (row3 hl) (by decide)
  rw [st3_kept] at h
  exact h

theorem left3 (pb gb : Nat) (W : World) (B : Nat) (hs : StRow W B st3 (some ⟨pb, 0, none⟩) 3 (some ⟨gb, 0, none⟩) 2) (g : Nat) (hl : W.cell? ⟨g, 0, none⟩ = some (.int .i64 4) ∧ W.cell? ⟨g, 1, none⟩ = some (.int .i64 6) ∧ W.cell? ⟨g, 2, none⟩ = some (.int .i64 0)) : Calls Tryz.prog 43 #[stV (some ⟨pb, 0, none⟩) 3 3 (some ⟨gb, 0, none⟩) 2 2 2, .slice (some ⟨g, 0, none⟩) 3 3, .int .i64 5, .int .i64 3] W fun e W' => e = .returned (.tuple #[.agg #[.int .i64 3, .int .i64 3], .int .i64 0]) ∧ Below W.heap.size W W' := by
  have h := Left_any st3 B _ _ 3 2 _ 3 3 _ 5 3 W hs (row3 hl) (by decide)
  rw [st3_left] at h
  exact h

theorem bound3 (pb gb : Nat) (W : World) (B : Nat) (hs : StRow W B st3 (some ⟨pb, 0, none⟩) 3 (some ⟨gb, 0, none⟩) 2) (g : Nat) (hl : W.cell? ⟨g, 0, none⟩ = some (.int .i64 5) ∧ W.cell? ⟨g, 1, none⟩ = some (.int .i64 7) ∧ W.cell? ⟨g, 2, none⟩ = some (.int .i64 0)) : Calls Tryz.prog 45 #[stV (some ⟨pb, 0, none⟩) 3 3 (some ⟨gb, 0, none⟩) 2 2 2, .slice (some ⟨g, 0, none⟩) 3 3] W fun e W' => e = .returned (.tuple #[.int .i64 62, .int .i64 0]) ∧ Below W.heap.size W W' := by
  have h := Bound_any st3 B _ _ 3 2 _ 3 3 _ W hs (row3 hl) (by decide) (by decide)
  rw [st3_bound] at h
  exact h

theorem most3 (pb gb : Nat) (W : World) (B : Nat) (hs : StRow W B st3 (some ⟨pb, 0, none⟩) 3 (some ⟨gb, 0, none⟩) 2) : Calls Tryz.prog 38 #[stV (some ⟨pb, 0, none⟩) 3 3 (some ⟨gb, 0, none⟩) 2 2 2, .int .i64 1] W fun e W' => (∃ b, e = .returned (.tuple #[.slice (some ⟨b, 0, none⟩) 3 3, .int .i64 0]) ∧ IntRow W' W'.heap.size (some ⟨b, 0, none⟩) 3 (lst [4, 6, 0])) ∧ Below W.heap.size W W' := by
  refine (Most_any st3 B _ _ 3 2 1 W hs).mono ?_
  rintro e W' ⟨hb, ⟨_, b, rfl, _, hr⟩ | ⟨h, _⟩⟩
  · refine ⟨⟨b, rfl, fun k hk => ?_⟩, hb⟩
    obtain ⟨b', o', h1, h2, h3⟩ := hr k hk
    refine ⟨b', o', h1, h2, ?_⟩
    rw [h3]
    obtain ⟨_, e0, e1, e2⟩ := st3_most
    match k, hk with
    | 0, _ => exact congrArg (fun z => some (Value.int .i64 z)) e0
    | 1, _ => exact congrArg (fun z => some (Value.int .i64 z)) e1
    | 2, _ => exact congrArg (fun z => some (Value.int .i64 z)) e2
    | k + 3, h => exact absurd h (by omega)
  · exact absurd st3_most.1 h
theorem best3 (pb gb : Nat) (W : World) (B : Nat) (hs : StRow W B st3 (some ⟨pb, 0, none⟩) 3 (some ⟨gb, 0, none⟩) 2) : Calls Tryz.prog 11 #[stV (some ⟨pb, 0, none⟩) 3 3 (some ⟨gb, 0, none⟩) 2 2 2] W fun e W' => (∃ v, e = .returned (.tuple #[v, .int .i64 60, .int .i64 0])) ∧ Below W.heap.size W W' := by
  refine (Best_any st3 B _ _ 3 2 W hs).mono ?_
  rintro e W' ⟨hb, ⟨_, A, c, rfl, _⟩ | ⟨h, _⟩⟩
  · exact ⟨⟨_, by rw [st3_best]⟩, hb⟩
  · exact absurd st3_check h
def sps (l : List (Int × Int)) (k : Nat) : Int × Int := l.getD k (0, 0)
theorem tells3 (pb gb : Nat) (W : World) (B : Nat) (hs : StRow W B st3 (some ⟨pb, 0, none⟩) 3 (some ⟨gb, 0, none⟩) 2) (g : Nat) (hl : W.cell? ⟨g, 0, none⟩ = some (.int .i64 4) ∧ W.cell? ⟨g, 1, none⟩ = some (.int .i64 6) ∧ W.cell? ⟨g, 2, none⟩ = some (.int .i64 0)) :
    Calls Tryz.prog 44 #[stV (some ⟨pb, 0, none⟩) 3 3 (some ⟨gb, 0, none⟩) 2 2 2, .slice (some ⟨g, 0, none⟩) 3 3, .int .i64 5, .int .i64 3] W fun e W' => (∃ A c, e = .returned (.tuple #[.slice A 3 c, .int .i64 0]) ∧ SpRow W' W'.heap.size A 3 (sps [(2, 2), (1, 1), (1, 2)]) ∧ 3 ≤ c) ∧ Below W.heap.size W W' := by
  refine (Tells_any st3 B _ _ 3 2 _ 3 3 _ 5 3 W hs (row3 hl) (by decide)).mono ?_
  rintro e W' ⟨hb, ⟨_, A, c, rfl, hr, hc⟩ | ⟨h, _⟩⟩
  · refine ⟨⟨A, c, rfl, fun k hk => ?_, hc⟩, hb⟩
    obtain ⟨b', o', h1, h2, h3, h4⟩ := hr k hk
    refine ⟨b', o', h1, h2, ?_, ?_⟩
    · rw [h3]
      obtain ⟨e0, e1, e2⟩ := st3_told
      match k, hk with
      | 0, _ => exact congrArg (fun z : Int × Int => some (Value.int .i64 z.1)) e0
      | 1, _ => exact congrArg (fun z : Int × Int => some (Value.int .i64 z.1)) e1
      | 2, _ => exact congrArg (fun z : Int × Int => some (Value.int .i64 z.1)) e2
      | k + 3, h => exact absurd h (by show ¬ k + 3 < 3; omega)
    · rw [h4]
      obtain ⟨e0, e1, e2⟩ := st3_told
      match k, hk with
      | 0, _ => exact congrArg (fun z : Int × Int => some (Value.int .i64 z.2)) e0
      | 1, _ => exact congrArg (fun z : Int × Int => some (Value.int .i64 z.2)) e1
      | 2, _ => exact congrArg (fun z : Int × Int => some (Value.int .i64 z.2)) e2
      | k + 3, h => exact absurd h (by show ¬ k + 3 < 3; omega)
  · exact absurd st3_samp h
end Go.Proofs.YtmbkngfcbgbeiaaGreat
