/- The laws' own helpers: Copy and Alike at bins, days, weighings, spans and numbers. (Written by gen_bcopy.py.) -/
import Derived.Test.YtnnikeolgknfoaaGreatBe
set_option linter.unusedSimpArgs false
set_option linter.unusedVariables false
namespace Go.Proofs.YtnnikeolgknfoaaGreat
open Go.RowKit Go.Shelf

theorem ownInt_T {T : TypeId} {w : World} {base n : Nat} {v : Value} {X : Nat → Int} (h : w.ownsRow base T 1 v n (numCells X n)) : ∃ A c, v = .slice A n c ∧ OwnInt w base A n X ∧ n ≤ c := by
  rcases h.2 with ⟨rfl, h0⟩ | ⟨g, cap, cur, rfl, hb, hg, hc, _⟩
  · exact ⟨none, 0, by rw [h0], fun k hk => by omega, by omega⟩
  · refine ⟨some ⟨g, 0, none⟩, cap, rfl, fun k hk => ?_, hc⟩
    have h1 := h.cells (g := g) rfl k _ (numCells_get X (by omega))
    rw [show ((⟨g, 0, none⟩ : Addr).add k) = ⟨g, k, none⟩ by by_cases hj : k = 0 <;> simp [Addr.add, hj]] at h1
    exact ⟨g, rfl, hb, h1, fun i => frozen_of_row _ _ _ _ _ hg⟩
def intEq (x y : Int) : Bool := x == y
theorem IntRow.atN {w : World} {B n : Nat} {P : Nat → Int} {a : Addr} (h : IntRow w B (some a) n P) {j : Nat} {u : Value} (hj : (numCells P n)[j]? = some u) : w.cell? (a.add j) = some u := by
  have hjn : j < n := by
    have := (List.getElem?_eq_some_iff.1 hj).1
    rwa [numCells_len] at this
  rw [numCells_get _ hjn] at hj
  injection hj with hj
  subst hj
  exact h.atA (by omega)

set_option maxRecDepth 100000 in
set_option maxHeartbeats 1000000 in
theorem copy_bn (A : Option Addr) (n c : Nat) (P : Nat → Bn) (W : World) (hr : BnRow W W.heap.size A n P) (hn : n ≤ 1000) :
    Calls Tryz.prog 68 #[.slice A n c] W fun e W' => Below W.heap.size W W' ∧ ∃ A c', e = .returned (.slice A n c') ∧ OwnBn W' W.heap.size A n P ∧ n ≤ c' := by
  have HR := Lib.hid hr
  obtain ⟨i0, hi, hz0, hz1, hz2⟩ := info_parts infoBn
  by_cases h0 : n = 0
  · subst h0
    clear hr
    go_enter Tryz.func68, Tryz.ntmps68
    go_wp2_with fail
    go_ret
    exact ⟨Below.refl _ _, none, 0, rfl, fun k hk => by omega, Nat.le_refl _⟩
  · obtain ⟨a, rfl⟩ : ∃ a, A = some a := by cases A with | none => exact absurd (hr.none rfl) h0 | some a => exact ⟨a, rfl⟩
    have hb : ((n : Int) == 0) = false := by rw [beq_eq_false_iff_ne]; omega
    clear hr h0
    go_enter Tryz.func68, Tryz.ntmps68
    go_wp2_with (at_builtin; refine wpList_append_own _ rfl _ _ 22 rfl W.heap.size 119 i0 (.agg #[.int .i64 0, .int .i64 0, .int .i64 0, .int .i64 0, .int .i64 0, .int .i64 0, .int .i64 0]) 7 56 bns_under hi hz0 hz1 hz2 rfl (by decide) (.slice (some ⟨W.heap.size, 0, none⟩) 0 0) 0 [] rfl (World.ownsRow_made W #[] 0 (Nat.le_refl _) (Nat.zero_le _) rfl) a n c (rowC bnC P n) rfl (rowC_len bnC_len _ _) ?c1 (rowC_one bnC_one _ _) ?c3 ?c4 ?c5 ?_)
    case c1 =>
      intro j u hj
      exact Lib.cell?_alloc_some _ (HR.out.atA hj)
    case c3 => unfold maxLen; omega
    case c4 => omega
    case c5 => simp
    intro v' w1 hown hgrow hnil
    go_wp2
    go_ret
    have hB : Below W.heap.size W w1 := ((Below.refl _ W).alloc (Nat.le_refl _) _).grown hgrow (by simp) (by intro k hk; simp [Value.ownBlock] at hk; omega)
    obtain ⟨A, c', rfl, h1, h2⟩ := OwnBn.of (P := P) (by simpa using hown)
    exact ⟨hB, A, c', rfl, h1, h2⟩

set_option maxRecDepth 100000 in
set_option maxHeartbeats 1000000 in
theorem copy_wg (A : Option Addr) (n c : Nat) (P : Nat → Wg) (W : World) (hr : WgRow W W.heap.size A n P) (hn : n ≤ 1000) :
    Calls Tryz.prog 70 #[.slice A n c] W fun e W' => Below W.heap.size W W' ∧ ∃ A c', e = .returned (.slice A n c') ∧ OwnWg W' W.heap.size A n P ∧ n ≤ c' := by
  have HR := Lib.hid hr
  obtain ⟨i0, hi, hz0, hz1, hz2⟩ := info_parts infoWg
  by_cases h0 : n = 0
  · subst h0
    clear hr
    go_enter Tryz.func70, Tryz.ntmps70
    go_wp2_with fail
    go_ret
    exact ⟨Below.refl _ _, none, 0, rfl, fun k hk => by omega, Nat.le_refl _⟩
  · obtain ⟨a, rfl⟩ : ∃ a, A = some a := by cases A with | none => exact absurd (hr.none rfl) h0 | some a => exact ⟨a, rfl⟩
    have hb : ((n : Int) == 0) = false := by rw [beq_eq_false_iff_ne]; omega
    clear hr h0
    go_enter Tryz.func70, Tryz.ntmps70
    go_wp2_with (at_builtin; refine wpList_append_own _ rfl _ _ 24 rfl W.heap.size 101 i0 (.agg #[.int .i64 0, .int .i64 0, .int .i64 0, .int .i64 0]) 4 32 wgs_under hi hz0 hz1 hz2 rfl (by decide) (.slice (some ⟨W.heap.size, 0, none⟩) 0 0) 0 [] rfl (World.ownsRow_made W #[] 0 (Nat.le_refl _) (Nat.zero_le _) rfl) a n c (rowC wgC P n) rfl (rowC_len wgC_len _ _) ?c1 (rowC_one wgC_one _ _) ?c3 ?c4 ?c5 ?_)
    case c1 =>
      intro j u hj
      exact Lib.cell?_alloc_some _ (HR.out.atA hj)
    case c3 => unfold maxLen; omega
    case c4 => omega
    case c5 => simp
    intro v' w1 hown hgrow hnil
    go_wp2
    go_ret
    have hB : Below W.heap.size W w1 := ((Below.refl _ W).alloc (Nat.le_refl _) _).grown hgrow (by simp) (by intro k hk; simp [Value.ownBlock] at hk; omega)
    obtain ⟨A, c', rfl, h1, h2⟩ := OwnWg.of (P := P) (by simpa using hown)
    exact ⟨hB, A, c', rfl, h1, h2⟩

set_option maxRecDepth 100000 in
set_option maxHeartbeats 1000000 in
theorem copy_kd (A : Option Addr) (n c : Nat) (P : Nat → Int) (W : World) (hr : IntRow W W.heap.size A n P) (hn : n ≤ 1000) :
    Calls Tryz.prog 69 #[.slice A n c] W fun e W' => Below W.heap.size W W' ∧ ∃ A c', e = .returned (.slice A n c') ∧ OwnInt W' W.heap.size A n P ∧ n ≤ c' := by
  have HR := Lib.hid hr
  obtain ⟨i0, hi, hz0, hz1, hz2⟩ := info_parts infoKd
  by_cases h0 : n = 0
  · subst h0
    clear hr
    go_enter Tryz.func69, Tryz.ntmps69
    go_wp2_with fail
    go_ret
    exact ⟨Below.refl _ _, none, 0, rfl, fun k hk => by omega, Nat.le_refl _⟩
  · obtain ⟨a, rfl⟩ : ∃ a, A = some a := by cases A with | none => exact absurd (hr.none rfl) h0 | some a => exact ⟨a, rfl⟩
    have hb : ((n : Int) == 0) = false := by rw [beq_eq_false_iff_ne]; omega
    clear hr h0
    go_enter Tryz.func69, Tryz.ntmps69
    go_wp2_with (at_builtin; refine wpList_append_own _ rfl _ _ 23 rfl W.heap.size 52 i0 (.int .i64 0) 1 8 kds_under hi hz0 hz1 hz2 rfl (by decide) (.slice (some ⟨W.heap.size, 0, none⟩) 0 0) 0 [] rfl (World.ownsRow_made W #[] 0 (Nat.le_refl _) (Nat.zero_le _) rfl) a n c (numCells P n) rfl (by rw [numCells_len, Nat.mul_one]) ?c1 (numCells_one _ _) ?c3 ?c4 ?c5 ?_)
    case c1 =>
      intro j u hj
      exact Lib.cell?_alloc_some _ (HR.out.atN hj)
    case c3 => unfold maxLen; omega
    case c4 => omega
    case c5 => simp
    intro v' w1 hown hgrow hnil
    go_wp2
    go_ret
    have hB : Below W.heap.size W w1 := ((Below.refl _ W).alloc (Nat.le_refl _) _).grown hgrow (by simp) (by intro k hk; simp [Value.ownBlock] at hk; omega)
    obtain ⟨A, c', rfl, h1, h2⟩ := ownInt_T (X := P) (by simpa using hown)
    exact ⟨hB, A, c', rfl, h1, h2⟩
end Go.Proofs.YtnnikeolgknfoaaGreat
