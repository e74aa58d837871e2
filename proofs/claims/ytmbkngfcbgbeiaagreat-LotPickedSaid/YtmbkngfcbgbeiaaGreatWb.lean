/- Contracts of the small functions of package lot, second part. -/
import Derived.Test.YtmbkngfcbgbeiaaGreatWa
set_option linter.unusedSimpArgs false
set_option linter.unusedVariables false
namespace Go.Proofs.YtmbkngfcbgbeiaaGreat
open Go.RowKit

/-- a picking's value -/
abbrev pkV (s w o f : Int) : Value := .agg #[.int .i64 s, .int .i64 w, .int .i64 o, .int .i64 f]

theorem at4 {w : World} {b : Nat} {x0 x1 x2 x3 : Int} (h0 : w.cell? ⟨b, 0, none⟩ = some (.int .i64 x0)) (h1 : w.cell? ⟨b, 1, none⟩ = some (.int .i64 x1)) (h2 : w.cell? ⟨b, 2, none⟩ = some (.int .i64 x2)) (h3 : w.cell? ⟨b, 3, none⟩ = some (.int .i64 x3)) :
    ∀ k, k < 4 → w.cell? ⟨b, 0 + k, none⟩ = some (.int .i64 ([x0, x1, x2, x3].getD k 0))
  | 0, _ => h0
  | 1, _ => h1
  | 2, _ => h2
  | 3, _ => h3
  | n + 4, h => absurd h (by omega)

/-- a sum of four numbers -/
theorem sum4 (b c : Nat) (x0 x1 x2 x3 : Int) (w : World) (h0 : w.cell? ⟨b, 0, none⟩ = some (.int .i64 x0)) (h1 : w.cell? ⟨b, 1, none⟩ = some (.int .i64 x1)) (h2 : w.cell? ⟨b, 2, none⟩ = some (.int .i64 x2)) (h3 : w.cell? ⟨b, 3, none⟩ = some (.int .i64 x3))
    (g0 : -1000000 ≤ x0 ∧ x0 ≤ 1000000) (g1 : -1000000 ≤ x1 ∧ x1 ≤ 1000000) (g2 : -1000000 ≤ x2 ∧ x2 ≤ 1000000) (g3 : -1000000 ≤ x3 ∧ x3 ≤ 1000000) :
    Calls Tryz.prog 59 #[.slice (some ⟨b, 0, none⟩) 4 c] w fun e w' => e = .returned (.int .i64 (x0 + x1 + x2 + x3)) ∧ w = w' := by
  refine (sum_any b 0 4 c (fun k => [x0, x1, x2, x3].getD k 0) w (by omega) ?_ (at4 h0 h1 h2 h3)).mono ?_
  · intro k hk
    match k, hk with
    | 0, _ => exact g0
    | 1, _ => exact g1
    | 2, _ => exact g2
    | 3, _ => exact g3
  · rintro e w' ⟨rfl, rfl⟩
    exact ⟨by simp [sumN], rfl⟩
/-- a sum of two numbers -/
theorem sum2 (b c : Nat) (x0 x1 : Int) (w : World) (h0 : w.cell? ⟨b, 0, none⟩ = some (.int .i64 x0)) (h1 : w.cell? ⟨b, 1, none⟩ = some (.int .i64 x1))
    (g0 : -1000000 ≤ x0 ∧ x0 ≤ 1000000) (g1 : -1000000 ≤ x1 ∧ x1 ≤ 1000000) :
    Calls Tryz.prog 59 #[.slice (some ⟨b, 0, none⟩) 2 c] w fun e w' => e = .returned (.int .i64 (x0 + x1)) ∧ w = w' := by
  refine (sum_any b 0 2 c (fun k => [x0, x1].getD k 0) w (by omega) ?_ ?_).mono ?_
  · intro k hk
    match k, hk with
    | 0, _ => exact g0
    | 1, _ => exact g1
  · intro k hk
    match k, hk with
    | 0, _ => exact h0
    | 1, _ => exact h1
  · rintro e w' ⟨rfl, rfl⟩
    exact ⟨by simp [sumN], rfl⟩

/-- a sum of two numbers that a call has just laid -/
theorem sum2n (w : World) (c T : Nat) (x0 x1 : Int) (g0 : -1000000 ≤ x0 ∧ x0 ≤ 1000000) (g1 : -1000000 ≤ x1 ∧ x1 ≤ 1000000) :
    Calls Tryz.prog 59 #[.slice (some ⟨w.heap.size, 0, none⟩) 2 c] (w.alloc (.cells #[.int .i64 x0, .int .i64 x1] T)) fun e w' => e = .returned (.int .i64 (x0 + x1)) ∧ w.alloc (.cells #[.int .i64 x0, .int .i64 x1] T) = w' :=
  sum2 _ _ x0 x1 _ (by simp [go_sem]) (by simp [go_sem]) g0 g1

set_option maxRecDepth 100000 in
set_option maxHeartbeats 400000 in
/-- lot.bag.size -/
theorem size_any (a b c d : Int) (w : World) (ha : 0 ≤ a ∧ a ≤ 1000) (hb : 0 ≤ b ∧ b ≤ 1000) (hc : 0 ≤ c ∧ c ≤ 1000) (hd : 0 ≤ d ∧ d ≤ 1000) :
    Calls Tryz.prog 68 #[.agg #[.int .i64 a, .int .i64 b, .int .i64 c, .int .i64 d]] w fun e w' =>
      e = .returned (.int .i64 (a + b + c + d)) ∧ Below w.heap.size w w' := by
  go_enter Tryz.func68, Tryz.ntmps68
  go_wp2_with fail
  refine (sum4 _ _ a b c d _ (by simp [go_sem]) (by simp [go_sem]) (by simp [go_sem]) (by simp [go_sem]) (by omega) (by omega) (by omega) (by omega)).mono ?_
  rintro e w' ⟨rfl, rfl⟩
  go_wp2_with fail
  go_ret
  exact ⟨rfl, (Below.refl _ _).alloc (Nat.le_refl _) _⟩

set_option maxRecDepth 100000 in
set_option maxHeartbeats 400000 in
/-- lot.Picking.span -/
theorem pspan_any (s w o f : Int) (W : World) (h1 : 0 ≤ s ∧ s ≤ 6) (h2 : 0 ≤ o ∧ o ≤ s) (h3 : 0 ≤ f ∧ f ≤ o)  :
    Calls Tryz.prog 65 #[pkV s w o f] W fun e W' =>
      e = .returned (.agg #[.int .i64 f, .int .i64 (min w (s - o + f))]) ∧ Below W.heap.size W W' := by
  go_enter Tryz.func65, Tryz.ntmps65
  go_wp2
  exact bodyPost_ret (v := .agg #[.int .i64 f, .int .i64 (min w (s - o + f))]) (by simp [results, Tryz.results65, go_sem]) rfl ⟨rfl, (by repeat (first | (with_reducible exact Below.refl _ _) | (with_reducible refine Below.drew ?_) | (with_reducible refine below_drewN ?_ _) | ((with_reducible refine below_alloc ?_ ?_ _); · (first | exact Nat.le_refl _ | omega | (simp; done) | (simp; omega) | (simp at *; omega))) | ((with_reducible refine below_set ?_ ?_ _); · (first | exact Nat.le_refl _ | omega | (simp; done) | (simp; omega) | (simp at *; omega))) | ((with_reducible refine below_via (by with_reducible assumption) ?_ ?_); · (first | exact Nat.le_refl _ | omega | (simp; done) | (simp; omega) | (simp at *; omega)))))⟩

set_option maxRecDepth 100000 in
set_option maxHeartbeats 400000 in
/-- lot.ends -/
theorem ends_any (W : World) :
    Calls Tryz.prog 71 #[] W fun e W' =>
      e = .returned (.tuple #[.agg #[.func (.func 102) #[] #[]], .agg #[.func (.func 103) #[] #[]]]) ∧ Below W.heap.size W W' := by
  go_enter Tryz.func71, Tryz.ntmps71
  go_wp2
  exact bodyPost_ret (v := .tuple #[.agg #[.func (.func 102) #[] #[]], .agg #[.func (.func 103) #[] #[]]]) (by simp [results, Tryz.results71, go_sem]) rfl ⟨rfl, (by repeat (first | (with_reducible exact Below.refl _ _) | (with_reducible refine Below.drew ?_) | (with_reducible refine below_drewN ?_ _) | ((with_reducible refine below_alloc ?_ ?_ _); · (first | exact Nat.le_refl _ | omega | (simp; done) | (simp; omega) | (simp at *; omega))) | ((with_reducible refine below_set ?_ ?_ _); · (first | exact Nat.le_refl _ | omega | (simp; done) | (simp; omega) | (simp at *; omega))) | ((with_reducible refine below_via (by with_reducible assumption) ?_ ?_); · (first | exact Nat.le_refl _ | omega | (simp; done) | (simp; omega) | (simp at *; omega)))))⟩

set_option maxRecDepth 100000 in
set_option maxHeartbeats 400000 in
/-- lot.ends$2 -/
theorem hi_any (s w o f many : Int) (W : World) (h1 : 0 ≤ s ∧ s ≤ 6) (h2 : 0 ≤ o ∧ o ≤ s) (h3 : 0 ≤ f ∧ f ≤ o) :
    Calls Tryz.prog 103 #[pkV s w o f, .int .i64 many] W fun e W' =>
      e = .returned (.int .i64 ((Pk.mk s w o f).hiOf many)) ∧ Below W.heap.size W W' := by
  go_enter Tryz.func103, Tryz.ntmps103
  go_wp2_with fail
  refine (pspan_any _ _ _ _ _ h1 h2 h3).mono ?_
  rintro e w' ⟨rfl, hb⟩
  go_wp2_with fail
  go_ret
  exact ⟨rfl, (by repeat (first | (with_reducible exact Below.refl _ _) | (with_reducible refine Below.drew ?_) | (with_reducible refine below_drewN ?_ _) | ((with_reducible refine below_alloc ?_ ?_ _); · (first | exact Nat.le_refl _ | omega | (simp; done) | (simp; omega) | (simp at *; omega))) | ((with_reducible refine below_set ?_ ?_ _); · (first | exact Nat.le_refl _ | omega | (simp; done) | (simp; omega) | (simp at *; omega))) | ((with_reducible refine below_via (by with_reducible assumption) ?_ ?_); · (first | exact Nat.le_refl _ | omega | (simp; done) | (simp; omega) | (simp at *; omega)))))⟩

set_option maxRecDepth 100000 in
set_option maxHeartbeats 400000 in
/-- lot.ends$1 -/
theorem lo_any (s w o f many : Int) (W : World) (h1 : 0 ≤ s ∧ s ≤ 6) (h2 : 0 ≤ o ∧ o ≤ s) (h3 : 0 ≤ f ∧ f ≤ o) (h4 : 0 ≤ many ∧ many ≤ s) :
    Calls Tryz.prog 102 #[pkV s w o f, .int .i64 many] W fun e W' =>
      e = .returned (.int .i64 ((Pk.mk s w o f).loOf many)) ∧ Below W.heap.size W W' := by
  have e1 : IntKind.i64.wrap (s - many) = s - many := IntWalk.i64_in _ (by omega)
  have e2 : IntKind.i64.wrap (f - (s - many)) = f - (s - many) := IntWalk.i64_in _ (by omega)
  go_enter Tryz.func102, Tryz.ntmps102
  go_wp2_with fail
  go_region_held3 (fun w' => w'.cell? ⟨W.heap.size, 0, none⟩ = some (.int .i64 s) ∧ w'.cell? ⟨W.heap.size, 1, none⟩ = some (.int .i64 w) ∧ w'.cell? ⟨W.heap.size, 2, none⟩ = some (.int .i64 o) ∧ w'.cell? ⟨W.heap.size, 3, none⟩ = some (.int .i64 f)) (go_keep) (first | (go_at_call 65; refine (pspan_any _ _ _ _ _ h1 h2 h3).mono ?_; rintro e w' ⟨rfl, hb⟩; obtain ⟨hc, hf⟩ := bcell hb))
  go_wp2_with fail
  go_ret
  exact ⟨rfl, (by repeat (first | (with_reducible exact Below.refl _ _) | (with_reducible refine Below.drew ?_) | (with_reducible refine below_drewN ?_ _) | ((with_reducible refine below_alloc ?_ ?_ _); · (first | exact Nat.le_refl _ | omega | (simp; done) | (simp; omega) | (simp at *; omega))) | ((with_reducible refine below_set ?_ ?_ _); · (first | exact Nat.le_refl _ | omega | (simp; done) | (simp; omega) | (simp at *; omega))) | ((with_reducible refine below_via (by with_reducible assumption) ?_ ?_); · (first | exact Nat.le_refl _ | omega | (simp; done) | (simp; omega) | (simp at *; omega)))))⟩

/-- a bag's value -/
abbrev bagV (x : Bag) : Value := .agg #[.int .i64 x.a, .int .i64 x.b, .int .i64 x.c, .int .i64 x.d]
theorem bsize_any (x : Bag) (w : World) (h : (0 ≤ x.a ∧ x.a ≤ 6) ∧ (0 ≤ x.b ∧ x.b ≤ 6) ∧ (0 ≤ x.c ∧ x.c ≤ 6) ∧ 0 ≤ x.d ∧ x.d ≤ 6) :
    Calls Tryz.prog 68 #[bagV x] w fun e w' => e = .returned (.int .i64 x.size) ∧ Below w.heap.size w w' :=
  size_any x.a x.b x.c x.d w (by omega) (by omega) (by omega) (by omega)
end Go.Proofs.YtmbkngfcbgbeiaaGreat
