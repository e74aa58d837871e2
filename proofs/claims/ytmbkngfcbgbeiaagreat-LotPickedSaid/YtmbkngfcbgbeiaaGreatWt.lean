/- slices.Clone of pickings and grades; more of package lot. -/
import Derived.Test.YtmbkngfcbgbeiaaGreatWr
set_option linter.unusedSimpArgs false
set_option linter.unusedVariables false
namespace Go.Proofs.YtmbkngfcbgbeiaaGreat
open Go.RowKit Go.Shelf

/-- the cells of pickings, of grades -/
def pkCell (P : Nat → Pk) (j : Nat) : Int := match j % 4 with | 0 => (P (j / 4)).s | 1 => (P (j / 4)).w | 2 => (P (j / 4)).o | _ => (P (j / 4)).f
def gdCell (G : Nat → Gd) (j : Nat) : Int := match j % 2 with | 0 => (G (j / 2)).foul | _ => (G (j / 2)).price
def numCells (f : Nat → Int) (n : Nat) : List Value := (List.range n).map fun j => .int .i64 (f j)
theorem numCells_len (f : Nat → Int) (n : Nat) : (numCells f n).length = n := by simp [numCells]
theorem numCells_get (f : Nat → Int) {n j : Nat} (hj : j < n) : (numCells f n)[j]? = some (.int .i64 (f j)) := by simp [numCells, hj]
theorem numCells_one (f : Nat → Int) (n : Nat) : ∀ u ∈ numCells f n, u.oneCell' = true := by
  intro u hu
  simp only [numCells, List.mem_map] at hu
  obtain ⟨j, _, rfl⟩ := hu
  rfl
theorem PkRow.at {w : World} {B n : Nat} {P : Nat → Pk} {b o : Nat} (h : PkRow w B (some ⟨b, o, none⟩) n P) {j : Nat} (hj : j < n * 4) : w.cell? ⟨b, o + j, none⟩ = some (.int .i64 (pkCell P j)) := by
  obtain ⟨b', o', hA, hlt, c0, c1, c2, c3⟩ := h (j / 4) (by omega)
  injection hA with hA
  injection hA with e1 e2
  subst e1 e2
  unfold pkCell
  have hm : j % 4 < 4 := Nat.mod_lt _ (by omega)
  have hd : j = j / 4 * 4 + j % 4 := by omega
  match h4 : j % 4, hm with
  | 0, _ => rw [show o + j = o + j / 4 * 4 by omega]; exact c0
  | 1, _ => rw [show o + j = o + j / 4 * 4 + 1 by omega]; exact c1
  | 2, _ => rw [show o + j = o + j / 4 * 4 + 2 by omega]; exact c2
  | 3, _ => rw [show o + j = o + j / 4 * 4 + 3 by omega]; exact c3
theorem GdRow.at {w : World} {B n : Nat} {G : Nat → Gd} {b o : Nat} (h : GdRow w B (some ⟨b, o, none⟩) n G) {j : Nat} (hj : j < n * 2) : w.cell? ⟨b, o + j, none⟩ = some (.int .i64 (gdCell G j)) := by
  obtain ⟨b', o', hA, hlt, c0, c1⟩ := h (j / 2) (by omega)
  injection hA with hA
  injection hA with e1 e2
  subst e1 e2
  unfold gdCell
  have hm : j % 2 < 2 := Nat.mod_lt _ (by omega)
  match h4 : j % 2, hm with
  | 0, _ => rw [show o + j = o + j / 2 * 2 by omega]; exact c0
  | 1, _ => rw [show o + j = o + j / 2 * 2 + 1 by omega]; exact c1

/-- a row of one's own: from block lo on, and it may be written -/
def OwnPk (w : World) (lo : Nat) (A : Option Addr) (n : Nat) (P : Nat → Pk) : Prop :=
  ∀ k, k < n → ∃ b, A = some ⟨b, 0, none⟩ ∧ lo ≤ b ∧ w.cell? ⟨b, k * 4, none⟩ = some (.int .i64 (P k).s) ∧ w.cell? ⟨b, k * 4 + 1, none⟩ = some (.int .i64 (P k).w) ∧ w.cell? ⟨b, k * 4 + 2, none⟩ = some (.int .i64 (P k).o) ∧ w.cell? ⟨b, k * 4 + 3, none⟩ = some (.int .i64 (P k).f) ∧
    ∀ i, w.frozen? ⟨b, i, none⟩ = false
def OwnGd (w : World) (lo : Nat) (A : Option Addr) (n : Nat) (G : Nat → Gd) : Prop :=
  ∀ k, k < n → ∃ b, A = some ⟨b, 0, none⟩ ∧ lo ≤ b ∧ w.cell? ⟨b, k * 2, none⟩ = some (.int .i64 (G k).foul) ∧ w.cell? ⟨b, k * 2 + 1, none⟩ = some (.int .i64 (G k).price) ∧ ∀ i, w.frozen? ⟨b, i, none⟩ = false
theorem OwnPk.row {w : World} {lo n : Nat} {A : Option Addr} {P : Nat → Pk} (h : OwnPk w lo A n P) : PkRow w w.heap.size A n P := fun k hk => by
  obtain ⟨b, hA, _, c0, c1, c2, c3, _⟩ := h k hk
  exact ⟨b, 0, hA, World.block_lt_of_cell? w _ c0, by rw [Nat.zero_add]; exact c0, by rw [Nat.zero_add]; exact c1, by rw [Nat.zero_add]; exact c2, by rw [Nat.zero_add]; exact c3⟩
theorem OwnGd.row {w : World} {lo n : Nat} {A : Option Addr} {P : Nat → Gd} (h : OwnGd w lo A n P) : GdRow w w.heap.size A n P := fun k hk => by
  obtain ⟨b, hA, _, c0, c1, _⟩ := h k hk
  exact ⟨b, 0, hA, World.block_lt_of_cell? w _ c0, by rw [Nat.zero_add]; exact c0, by rw [Nat.zero_add]; exact c1⟩
theorem OwnPk.later {w w' : World} {lo n : Nat} {A : Option Addr} {P : Nat → Pk} (h : OwnPk w lo A n P) (hb : Below w.heap.size w w') : OwnPk w' lo A n P := fun k hk => by
  obtain ⟨b, hA, hl, c0, c1, c2, c3, hf⟩ := h k hk
  have hs := hb.block b (World.block_lt_of_cell? w _ c0)
  exact ⟨b, hA, hl, cell_same hs c0, cell_same hs c1, cell_same hs c2, cell_same hs c3, fun i => fro_same hs (hf i)⟩
theorem OwnGd.later {w w' : World} {lo n : Nat} {A : Option Addr} {P : Nat → Gd} (h : OwnGd w lo A n P) (hb : Below w.heap.size w w') : OwnGd w' lo A n P := fun k hk => by
  obtain ⟨b, hA, hl, c0, c1, hf⟩ := h k hk
  have hs := hb.block b (World.block_lt_of_cell? w _ c0)
  exact ⟨b, hA, hl, cell_same hs c0, cell_same hs c1, fun i => fro_same hs (hf i)⟩

theorem infoPk : (Tryz.prog.info? 49).map (fun i => (i.zero, i.size, i.bytes)) = some (some (.agg #[.int .i64 0, .int .i64 0, .int .i64 0, .int .i64 0]), 4, 32) := by kernel_rfl
theorem infoGd : (Tryz.prog.info? 58).map (fun i => (i.zero, i.size, i.bytes)) = some (some (.agg #[.int .i64 0, .int .i64 0]), 2, 16) := by kernel_rfl
theorem pks_under : Tryz.prog.underlying 30 = some (.slice 49) := by kernel_rfl
theorem gds_under : Tryz.prog.underlying 31 = some (.slice 58) := by kernel_rfl


theorem OwnPk.of_owns {w : World} {lo n : Nat} {v : Value} {P : Nat → Pk} (h : w.ownsRow lo 49 4 v n (numCells (pkCell P) (n * 4))) : ∃ A c, v = .slice A n c ∧ OwnPk w lo A n P ∧ n ≤ c := by
  rcases h.2 with ⟨rfl, h0⟩ | ⟨g, cap, cur, rfl, hb, hg, hc, _⟩
  · refine ⟨none, 0, by rw [h0], fun k hk => by omega, by omega⟩
  · refine ⟨some ⟨g, 0, none⟩, cap, rfl, fun k hk => ?_, hc⟩
    have hcell : ∀ j, j < n * 4 → w.cell? ⟨g, j, none⟩ = some (.int .i64 (pkCell P j)) := fun j hj => by
      have h1 := h.cells (g := g) rfl j _ (numCells_get (pkCell P) hj)
      rwa [show ((⟨g, 0, none⟩ : Addr).add j) = ⟨g, j, none⟩ by by_cases hj : j = 0 <;> simp [Addr.add, hj]] at h1
    have e0 : pkCell P (k * 4 + 0) = (P k).s := by unfold pkCell; rw [show (k * 4 + 0) % 4 = 0 by omega, show (k * 4 + 0) / 4 = k by omega]; rfl
    have e1 : pkCell P (k * 4 + 1) = (P k).w := by unfold pkCell; rw [show (k * 4 + 1) % 4 = 1 by omega, show (k * 4 + 1) / 4 = k by omega]; rfl
    have e2 : pkCell P (k * 4 + 2) = (P k).o := by unfold pkCell; rw [show (k * 4 + 2) % 4 = 2 by omega, show (k * 4 + 2) / 4 = k by omega]; rfl
    have e3 : pkCell P (k * 4 + 3) = (P k).f := by unfold pkCell; rw [show (k * 4 + 3) % 4 = 3 by omega, show (k * 4 + 3) / 4 = k by omega]; rfl
    refine ⟨g, rfl, hb, ?_, ?_, ?_, ?_, fun i => frozen_of_row _ _ _ _ _ hg⟩
    · rw [← e0]; exact hcell _ (by omega)
    · rw [← e1]; exact hcell _ (by omega)
    · rw [← e2]; exact hcell _ (by omega)
    · rw [← e3]; exact hcell _ (by omega)

theorem PkRow.atA {w : World} {B n : Nat} {P : Nat → Pk} {a : Addr} (h : PkRow w B (some a) n P) {j : Nat} (hj : j < n * 4) : w.cell? (a.add j) = some (.int .i64 (pkCell P j)) := by
  have h0 := h 0 (by omega)
  obtain ⟨b, o, hA, _⟩ := h0
  injection hA with hA
  subst hA
  rw [Addr.add_lit]
  exact h.at hj

set_option maxRecDepth 100000 in
set_option maxHeartbeats 1000000 in
theorem clone_pk (A : Option Addr) (n c : Nat) (P : Nat → Pk) (W : World) (hr : PkRow W W.heap.size A n P) (hn : n ≤ 1000) (hA : A = none → n = 0) :
    Calls Tryz.prog 106 #[.slice A n c] W fun e W' => Below W.heap.size W W' ∧ ∃ A c', e = .returned (.slice A n c') ∧ OwnPk W' W.heap.size A n P ∧ n ≤ c' := by
  have HR := Lib.hid hr
  obtain ⟨i0, hi, hz0, hz1, hz2⟩ := info_parts infoPk
  have heq : ∀ (w : World) (a : Option Addr) (n c n' c' : Nat), (binOp .eql 30 (.slice a n c) (.slice none n' c')).run Tryz.prog w = .ok (.bool a.isNone) w := fun w a n c n' c' => Lib.run_eql_slice_nil w _ _ a n c n' c' pks_under
  clear hr
  match A, HR, hA with
  | none, HR, hA =>
    have hn0 := hA rfl
    subst hn0
    go_enter Tryz.func106, Tryz.ntmps106
    go_wp2
    go_ret
    exact ⟨Below.refl _ _, none, ⟨0, rfl⟩, fun k hk => by omega⟩
  | some a, HR, _ =>
    clear hA
    go_enter Tryz.func106, Tryz.ntmps106
    go_wp2_with (at_builtin; refine wpList_append_own _ rfl _ _ 30 rfl W.heap.size 49 i0 (.agg #[.int .i64 0, .int .i64 0, .int .i64 0, .int .i64 0]) 4 32 pks_under hi hz0 hz1 hz2 rfl (by decide) (.slice (some ⟨W.heap.size, 0, none⟩) 0 0) 0 [] rfl (World.ownsRow_made W #[] 0 (Nat.le_refl _) (Nat.zero_le _) rfl) a n c (numCells (pkCell P) (n * 4)) rfl (numCells_len _ _) ?c1 (numCells_one _ _) ?c3 ?c4 ?c5 ?_)
    case c1 =>
      intro j u hj
      have hjn : j < n * 4 := by have := (List.getElem?_eq_some_iff.1 hj).1; rwa [numCells_len] at this
      rw [numCells_get _ hjn] at hj
      injection hj with hj
      subst hj
      exact Lib.cell?_alloc_some _ (HR.out.atA hjn)
    case c3 => unfold maxLen; omega
    case c4 => omega
    case c5 => simp
    intro v' w1 hown hgrow hnil
    go_wp2
    go_ret
    have hB : Below W.heap.size W w1 := ((Below.refl _ W).alloc (Nat.le_refl _) _).grown hgrow (by simp) (by intro k hk; simp [Value.ownBlock] at hk; omega)
    obtain ⟨A, c', rfl, h1, h2⟩ := OwnPk.of_owns (P := P) (by simpa using hown)
    exact ⟨hB, A, c', rfl, h1, h2⟩

theorem OwnGd.of_owns {w : World} {lo n : Nat} {v : Value} {P : Nat → Gd} (h : w.ownsRow lo 58 2 v n (numCells (gdCell P) (n * 2))) : ∃ A c, v = .slice A n c ∧ OwnGd w lo A n P ∧ n ≤ c := by
  rcases h.2 with ⟨rfl, h0⟩ | ⟨g, cap, cur, rfl, hb, hg, hc, _⟩
  · refine ⟨none, 0, by rw [h0], fun k hk => by omega, by omega⟩
  · refine ⟨some ⟨g, 0, none⟩, cap, rfl, fun k hk => ?_, hc⟩
    have hcell : ∀ j, j < n * 2 → w.cell? ⟨g, j, none⟩ = some (.int .i64 (gdCell P j)) := fun j hj => by
      have h1 := h.cells (g := g) rfl j _ (numCells_get (gdCell P) hj)
      rwa [show ((⟨g, 0, none⟩ : Addr).add j) = ⟨g, j, none⟩ by by_cases hj : j = 0 <;> simp [Addr.add, hj]] at h1
    have e0 : gdCell P (k * 2 + 0) = (P k).foul := by unfold gdCell; rw [show (k * 2 + 0) % 2 = 0 by omega, show (k * 2 + 0) / 2 = k by omega]; rfl
    have e1 : gdCell P (k * 2 + 1) = (P k).price := by unfold gdCell; rw [show (k * 2 + 1) % 2 = 1 by omega, show (k * 2 + 1) / 2 = k by omega]; rfl
    refine ⟨g, rfl, hb, ?_, ?_, fun i => frozen_of_row _ _ _ _ _ hg⟩
    · rw [← e0]; exact hcell _ (by omega)
    · rw [← e1]; exact hcell _ (by omega)

theorem GdRow.atA {w : World} {B n : Nat} {P : Nat → Gd} {a : Addr} (h : GdRow w B (some a) n P) {j : Nat} (hj : j < n * 2) : w.cell? (a.add j) = some (.int .i64 (gdCell P j)) := by
  have h0 := h 0 (by omega)
  obtain ⟨b, o, hA, _⟩ := h0
  injection hA with hA
  subst hA
  rw [Addr.add_lit]
  exact h.at hj

set_option maxRecDepth 100000 in
set_option maxHeartbeats 1000000 in
theorem clone_gd (A : Option Addr) (n c : Nat) (P : Nat → Gd) (W : World) (hr : GdRow W W.heap.size A n P) (hn : n ≤ 1000) (hA : A = none → n = 0) :
    Calls Tryz.prog 107 #[.slice A n c] W fun e W' => Below W.heap.size W W' ∧ ∃ A c', e = .returned (.slice A n c') ∧ OwnGd W' W.heap.size A n P ∧ n ≤ c' := by
  have HR := Lib.hid hr
  obtain ⟨i0, hi, hz0, hz1, hz2⟩ := info_parts infoGd
  have heq : ∀ (w : World) (a : Option Addr) (n c n' c' : Nat), (binOp .eql 31 (.slice a n c) (.slice none n' c')).run Tryz.prog w = .ok (.bool a.isNone) w := fun w a n c n' c' => Lib.run_eql_slice_nil w _ _ a n c n' c' gds_under
  clear hr
  match A, HR, hA with
  | none, HR, hA =>
    have hn0 := hA rfl
    subst hn0
    go_enter Tryz.func107, Tryz.ntmps107
    go_wp2
    go_ret
    exact ⟨Below.refl _ _, none, ⟨0, rfl⟩, fun k hk => by omega⟩
  | some a, HR, _ =>
    clear hA
    go_enter Tryz.func107, Tryz.ntmps107
    go_wp2_with (at_builtin; refine wpList_append_own _ rfl _ _ 31 rfl W.heap.size 58 i0 (.agg #[.int .i64 0, .int .i64 0]) 2 16 gds_under hi hz0 hz1 hz2 rfl (by decide) (.slice (some ⟨W.heap.size, 0, none⟩) 0 0) 0 [] rfl (World.ownsRow_made W #[] 0 (Nat.le_refl _) (Nat.zero_le _) rfl) a n c (numCells (gdCell P) (n * 2)) rfl (numCells_len _ _) ?c1 (numCells_one _ _) ?c3 ?c4 ?c5 ?_)
    case c1 =>
      intro j u hj
      have hjn : j < n * 2 := by have := (List.getElem?_eq_some_iff.1 hj).1; rwa [numCells_len] at this
      rw [numCells_get _ hjn] at hj
      injection hj with hj
      subst hj
      exact Lib.cell?_alloc_some _ (HR.out.atA hjn)
    case c3 => unfold maxLen; omega
    case c4 => omega
    case c5 => simp
    intro v' w1 hown hgrow hnil
    go_wp2
    go_ret
    have hB : Below W.heap.size W w1 := ((Below.refl _ W).alloc (Nat.le_refl _) _).grown hgrow (by simp) (by intro k hk; simp [Value.ownBlock] at hk; omega)
    obtain ⟨A, c', rfl, h1, h2⟩ := OwnGd.of_owns (P := P) (by simpa using hown)
    exact ⟨hB, A, c', rfl, h1, h2⟩
end Go.Proofs.YtmbkngfcbgbeiaaGreat
