/- Copy of the kit (printed by gen_copy.py). -/
import Derived.Test.YtegmomappbehcaaK2
set_option linter.unusedSimpArgs false
set_option linter.unusedVariables false
namespace Go.Proofs.Ytegmomappbehcaa
open Go.RowKit Go.Shelf

/-- a row of numbers of one's own -/
def OwnInt (w : World) (lo : Nat) (A : Option Addr) (n : Nat) (X : Nat → Int) : Prop :=
  ∀ k, k < n → ∃ b, A = some ⟨b, 0, none⟩ ∧ lo ≤ b ∧ w.cell? ⟨b, k, none⟩ = some (.int .i64 (X k)) ∧ ∀ i, w.frozen? ⟨b, i, none⟩ = false
def intCell (X : Nat → Int) (j : Nat) : Int := X j
theorem IntRow.none {w : World} {B n : Nat} {A : Option Addr} {P : Nat → Int} (h : IntRow w B A n P) : A = none → n = 0 := fun e => by
  cases n with
  | zero => rfl
  | succ n => obtain ⟨b, o, hA, _⟩ := h 0 (by omega); rw [e] at hA; cases hA
theorem IntRow.atA {w : World} {B n : Nat} {P : Nat → Int} {a : Addr} (h : IntRow w B (some a) n P) {j : Nat} (hj : j < n * 1) : w.cell? (a.add j) = some (.int .i64 (intCell P j)) := by
  obtain ⟨b, o, hA, _, hc⟩ := h j (by omega)
  injection hA with hA
  subst hA
  rw [Addr.add_lit]
  exact hc
theorem OwnInt.of_owns {w : World} {lo n : Nat} {v : Value} {P : Nat → Int} (h : w.ownsRow lo 3 1 v n (numCells (intCell P) (n * 1))) : ∃ A c, v = .slice A n c ∧ OwnInt w lo A n P ∧ n ≤ c := by
  rcases h.2 with ⟨rfl, h0⟩ | ⟨g, cap, cur, rfl, hb, hg, hc, _⟩
  · refine ⟨Option.none, 0, by rw [h0], fun k hk => by omega, by omega⟩
  · refine ⟨some ⟨g, 0, Option.none⟩, cap, rfl, fun k hk => ⟨g, rfl, hb, ?_, fun i => frozen_of_row _ _ _ _ _ hg⟩, hc⟩
    have h1 := h.cells (g := g) rfl k _ (numCells_get (intCell P) (by omega))
    rwa [show ((⟨g, 0, Option.none⟩ : Addr).add k) = ⟨g, k, Option.none⟩ by by_cases hj : k = 0 <;> simp [Addr.add, hj]] at h1
theorem OwnInt.row {w : World} {lo n : Nat} {A : Option Addr} {P : Nat → Int} (h : OwnInt w lo A n P) : IntRow w w.heap.size A n P := fun k hk => by
  obtain ⟨b, hA, _, c0, _⟩ := h k hk
  exact ⟨b, 0, hA, World.block_lt_of_cell? w _ c0, by rw [Nat.zero_add]; exact c0⟩
theorem OwnInt.later {w w' : World} {lo n : Nat} {A : Option Addr} {P : Nat → Int} (h : OwnInt w lo A n P) (hb : Below w.heap.size w w') : OwnInt w' lo A n P := fun k hk => by
  obtain ⟨b, hA, hl, c0, hf⟩ := h k hk
  have hs := hb.block b (World.block_lt_of_cell? w _ c0)
  exact ⟨b, hA, hl, cell_same hs c0, fun i => fro_same hs (hf i)⟩


set_option maxRecDepth 100000 in
set_option maxHeartbeats 1000000 in
theorem copy_int (A : Option Addr) (n c : Nat) (P : Nat → Int) (W : World) (hr : IntRow W W.heap.size A n P) (hn : n ≤ 1000) :
    Calls Try.prog 19 #[.slice A n c] W fun e W' => Below W.heap.size W W' ∧ ∃ A c', e = .returned (.slice A n c') ∧ OwnInt W' W.heap.size A n P ∧ n ≤ c' := by
  have HR := Lib.hid hr
  obtain ⟨i0, hi, hz0, hz1, hz2⟩ := info_parts infoInt
  by_cases h0 : n = 0
  · subst h0
    clear hr
    go_enter Try.func19, Try.ntmps19
    go_wp2_with fail
    go_ret
    exact ⟨Below.refl _ _, none, 0, rfl, fun k hk => by omega, Nat.le_refl _⟩
  · obtain ⟨a, rfl⟩ : ∃ a, A = some a := by cases A with | none => exact absurd (hr.none rfl) h0 | some a => exact ⟨a, rfl⟩
    have hb : ((n : Int) == 0) = false := by rw [beq_eq_false_iff_ne]; omega
    clear hr h0
    go_enter Try.func19, Try.ntmps19
    go_wp2_with (at_builtin; refine wpList_append_own _ rfl _ _ 26 rfl W.heap.size 3 i0 (.int .i64 0) 1 8 ints_under hi hz0 hz1 hz2 rfl (by decide) (.slice (some ⟨W.heap.size, 0, none⟩) 0 0) 0 [] rfl (World.ownsRow_made W #[] 0 (Nat.le_refl _) (Nat.zero_le _) rfl) a n c (numCells (intCell P) (n * 1)) rfl (numCells_len _ _) ?c1 (numCells_one _ _) ?c3 ?c4 ?c5 ?_)
    case c1 =>
      intro j u hj
      have hjn : j < n * 1 := by have := (List.getElem?_eq_some_iff.1 hj).1; rwa [numCells_len] at this
      rw [numCells_get _ hjn] at hj
      injection hj with hj
      subst hj
      exact Lib.cell?_alloc_some _ (HR.out.atA hjn)
    case c3 => unfold maxLen; omega
    case c4 => omega
    case c5 => simp
    intro v' w1 hown hgrow hnil
    go_wp2
    go_ret
    have hB : Below W.heap.size W w1 := ((Below.refl _ W).alloc (Nat.le_refl _) _).grown hgrow (by simp) (by intro k hk; simp [Value.ownBlock] at hk; omega)
    obtain ⟨A, c', rfl, h1, h2⟩ := OwnInt.of_owns (P := P) (by simpa using hown)
    exact ⟨hB, A, c', rfl, h1, h2⟩


set_option maxRecDepth 100000 in
set_option maxHeartbeats 1000000 in
theorem copy_gd (A : Option Addr) (n c : Nat) (P : Nat → Gd) (W : World) (hr : GdRow W W.heap.size A n P) (hn : n ≤ 1000) :
    Calls Try.prog 75 #[.slice A n c] W fun e W' => Below W.heap.size W W' ∧ ∃ A c', e = .returned (.slice A n c') ∧ OwnGd W' W.heap.size A n P ∧ n ≤ c' := by
  have HR := Lib.hid hr
  obtain ⟨i0, hi, hz0, hz1, hz2⟩ := info_parts infoGd
  by_cases h0 : n = 0
  · subst h0
    clear hr
    go_enter Try.func75, Try.ntmps75
    go_wp2_with fail
    go_ret
    exact ⟨Below.refl _ _, none, 0, rfl, fun k hk => by omega, Nat.le_refl _⟩
  · obtain ⟨a, rfl⟩ : ∃ a, A = some a := by cases A with | none => exact absurd (hr.none rfl) h0 | some a => exact ⟨a, rfl⟩
    have hb : ((n : Int) == 0) = false := by rw [beq_eq_false_iff_ne]; omega
    clear hr h0
    go_enter Try.func75, Try.ntmps75
    go_wp2_with (at_builtin; refine wpList_append_own _ rfl _ _ 23 rfl W.heap.size 82 i0 (.agg #[.int .i64 0, .int .i64 0]) 2 16 gds_under hi hz0 hz1 hz2 rfl (by decide) (.slice (some ⟨W.heap.size, 0, none⟩) 0 0) 0 [] rfl (World.ownsRow_made W #[] 0 (Nat.le_refl _) (Nat.zero_le _) rfl) a n c (numCells (gdCell P) (n * 2)) rfl (numCells_len _ _) ?c1 (numCells_one _ _) ?c3 ?c4 ?c5 ?_)
    case c1 =>
      intro j u hj
      have hjn : j < n * 2 := by have := (List.getElem?_eq_some_iff.1 hj).1; rwa [numCells_len] at this
      rw [numCells_get _ hjn] at hj
      injection hj with hj
      subst hj
      exact Lib.cell?_alloc_some _ (HR.out.atA hjn)
    case c3 => unfold maxLen; omega
    case c4 => omega
    case c5 => simp
    intro v' w1 hown hgrow hnil
    go_wp2
    go_ret
    have hB : Below W.heap.size W w1 := ((Below.refl _ W).alloc (Nat.le_refl _) _).grown hgrow (by simp) (by intro k hk; simp [Value.ownBlock] at hk; omega)
    obtain ⟨A, c', rfl, h1, h2⟩ := OwnGd.of_owns (P := P) (by simpa using hown)
    exact ⟨hB, A, c', rfl, h1, h2⟩


set_option maxRecDepth 100000 in
set_option maxHeartbeats 1000000 in
theorem copy_pk (A : Option Addr) (n c : Nat) (P : Nat → Pk) (W : World) (hr : PkRow W W.heap.size A n P) (hn : n ≤ 1000) :
    Calls Try.prog 74 #[.slice A n c] W fun e W' => Below W.heap.size W W' ∧ ∃ A c', e = .returned (.slice A n c') ∧ OwnPk W' W.heap.size A n P ∧ n ≤ c' := by
  have HR := Lib.hid hr
  obtain ⟨i0, hi, hz0, hz1, hz2⟩ := info_parts infoPk
  by_cases h0 : n = 0
  · subst h0
    clear hr
    go_enter Try.func74, Try.ntmps74
    go_wp2_with fail
    go_ret
    exact ⟨Below.refl _ _, none, 0, rfl, fun k hk => by omega, Nat.le_refl _⟩
  · obtain ⟨a, rfl⟩ : ∃ a, A = some a := by cases A with | none => exact absurd (hr.none rfl) h0 | some a => exact ⟨a, rfl⟩
    have hb : ((n : Int) == 0) = false := by rw [beq_eq_false_iff_ne]; omega
    clear hr h0
    go_enter Try.func74, Try.ntmps74
    go_wp2_with (at_builtin; refine wpList_append_own _ rfl _ _ 22 rfl W.heap.size 75 i0 (.agg #[.int .i64 0, .int .i64 0, .int .i64 0, .int .i64 0]) 4 32 pks_under hi hz0 hz1 hz2 rfl (by decide) (.slice (some ⟨W.heap.size, 0, none⟩) 0 0) 0 [] rfl (World.ownsRow_made W #[] 0 (Nat.le_refl _) (Nat.zero_le _) rfl) a n c (numCells (pkCell P) (n * 4)) rfl (numCells_len _ _) ?c1 (numCells_one _ _) ?c3 ?c4 ?c5 ?_)
    case c1 =>
      intro j u hj
      have hjn : j < n * 4 := by have := (List.getElem?_eq_some_iff.1 hj).1; rwa [numCells_len] at this
      rw [numCells_get _ hjn] at hj
      injection hj with hj
      subst hj
      exact Lib.cell?_alloc_some _ (HR.out.atA hjn)
    case c3 => unfold maxLen; omega
    case c4 => omega
    case c5 => simp
    intro v' w1 hown hgrow hnil
    go_wp2
    go_ret
    have hB : Below W.heap.size W w1 := ((Below.refl _ W).alloc (Nat.le_refl _) _).grown hgrow (by simp) (by intro k hk; simp [Value.ownBlock] at hk; omega)
    obtain ⟨A, c', rfl, h1, h2⟩ := OwnPk.of_owns (P := P) (by simpa using hown)
    exact ⟨hB, A, c', rfl, h1, h2⟩

end Go.Proofs.Ytegmomappbehcaa
