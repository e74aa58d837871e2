/- lot.Check. -/
import Derived.Test.YtmbkngfcbgbeiaaGreatWe
set_option linter.unusedSimpArgs false
set_option linter.unusedVariables false
namespace Go.Proofs.YtmbkngfcbgbeiaaGreat
open Go.RowKit Go.Shelf

def pkRngB (p : Pk) : Bool := inB p.s 0 6 && inB p.w 0 p.s && inB p.o 0 p.s && inB p.f 0 p.o
def gdRngB (g : Gd) : Bool := inB g.foul 0 100 && inB g.price 1 100
theorem pkRngB_iff {p : Pk} : pkRngB p = true ↔ p.rng := by simp [pkRngB, inB, Pk.rng]; omega
theorem gdRngB_iff {g : Gd} : gdRngB g = true ↔ g.rng := by simp [gdRngB, inB, Gd.rng]

set_option maxRecDepth 100000 in
set_option maxHeartbeats 1000000 in
theorem check1 (p : Pk) (W : World) : Calls Tryz.prog 84 #[pkV p.s p.w p.o p.f] W fun e W' => e = .returned (.bool (pkRngB p)) ∧ Below W.heap.size W W' := by
  cases h1 : inB p.s 0 6 with
  | false =>
    have HR : Hid (pkRngB p = false) := Lib.hid (by simp [pkRngB, h1])
    go_enter Tryz.func84, Tryz.ntmps84
    go_wp2_with (go_at_call 67; refine (in_any _ _ _ _).mono ?_; rintro e w' ⟨rfl, rfl⟩)
    go_ret
    exact ⟨by rw [HR.out]; rfl, (by repeat (first | (with_reducible exact Below.refl _ _) | (with_reducible refine Below.drew ?_) | (with_reducible refine below_drewN ?_ _) | ((with_reducible refine below_alloc ?_ ?_ _); · (first | exact Nat.le_refl _ | omega | (simp; done) | (simp; omega) | (simp at *; omega))) | ((with_reducible refine below_set ?_ ?_ _); · (first | exact Nat.le_refl _ | omega | (simp; done) | (simp; omega) | (simp at *; omega))) | ((with_reducible refine below_via (by with_reducible assumption) ?_ ?_); · (first | exact Nat.le_refl _ | omega | (simp; done) | (simp; omega) | (simp at *; omega)))))⟩
  | true =>
    cases h2 : inB p.w 0 p.s with
    | false =>
      have HR : Hid (pkRngB p = false) := Lib.hid (by simp [pkRngB, h2])
      go_enter Tryz.func84, Tryz.ntmps84
      go_wp2_with (go_at_call 67; refine (in_any _ _ _ _).mono ?_; rintro e w' ⟨rfl, rfl⟩)
      go_ret
      exact ⟨by rw [HR.out]; rfl, (by repeat (first | (with_reducible exact Below.refl _ _) | (with_reducible refine Below.drew ?_) | (with_reducible refine below_drewN ?_ _) | ((with_reducible refine below_alloc ?_ ?_ _); · (first | exact Nat.le_refl _ | omega | (simp; done) | (simp; omega) | (simp at *; omega))) | ((with_reducible refine below_set ?_ ?_ _); · (first | exact Nat.le_refl _ | omega | (simp; done) | (simp; omega) | (simp at *; omega))) | ((with_reducible refine below_via (by with_reducible assumption) ?_ ?_); · (first | exact Nat.le_refl _ | omega | (simp; done) | (simp; omega) | (simp at *; omega)))))⟩
    | true =>
      cases h3 : inB p.o 0 p.s with
      | false =>
        have HR : Hid (pkRngB p = false) := Lib.hid (by simp [pkRngB, h3])
        go_enter Tryz.func84, Tryz.ntmps84
        go_wp2_with (go_at_call 67; refine (in_any _ _ _ _).mono ?_; rintro e w' ⟨rfl, rfl⟩)
        go_ret
        exact ⟨by rw [HR.out]; rfl, (by repeat (first | (with_reducible exact Below.refl _ _) | (with_reducible refine Below.drew ?_) | (with_reducible refine below_drewN ?_ _) | ((with_reducible refine below_alloc ?_ ?_ _); · (first | exact Nat.le_refl _ | omega | (simp; done) | (simp; omega) | (simp at *; omega))) | ((with_reducible refine below_set ?_ ?_ _); · (first | exact Nat.le_refl _ | omega | (simp; done) | (simp; omega) | (simp at *; omega))) | ((with_reducible refine below_via (by with_reducible assumption) ?_ ?_); · (first | exact Nat.le_refl _ | omega | (simp; done) | (simp; omega) | (simp at *; omega)))))⟩
      | true =>
        have HR : Hid (pkRngB p = inB p.f 0 p.o) := Lib.hid (by simp [pkRngB, h1, h2, h3])
        go_enter Tryz.func84, Tryz.ntmps84
        go_wp2_with (go_at_call 67; refine (in_any _ _ _ _).mono ?_; rintro e w' ⟨rfl, rfl⟩)
        go_ret
        exact ⟨by rw [HR.out]; rfl, (by repeat (first | (with_reducible exact Below.refl _ _) | (with_reducible refine Below.drew ?_) | (with_reducible refine below_drewN ?_ _) | ((with_reducible refine below_alloc ?_ ?_ _); · (first | exact Nat.le_refl _ | omega | (simp; done) | (simp; omega) | (simp at *; omega))) | ((with_reducible refine below_set ?_ ?_ _); · (first | exact Nat.le_refl _ | omega | (simp; done) | (simp; omega) | (simp at *; omega))) | ((with_reducible refine below_via (by with_reducible assumption) ?_ ?_); · (first | exact Nat.le_refl _ | omega | (simp; done) | (simp; omega) | (simp at *; omega)))))⟩

set_option maxRecDepth 100000 in
set_option maxHeartbeats 1000000 in
theorem check2 (g : Gd) (W : World) : Calls Tryz.prog 86 #[gdV g] W fun e W' => e = .returned (.bool (gdRngB g)) ∧ Below W.heap.size W W' := by
  cases h1 : inB g.foul 0 100 with
  | false =>
    have HR : Hid (gdRngB g = false) := Lib.hid (by simp [gdRngB, h1])
    go_enter Tryz.func86, Tryz.ntmps86
    go_wp2_with (go_at_call 67; refine (in_any _ _ _ _).mono ?_; rintro e w' ⟨rfl, rfl⟩)
    go_ret
    exact ⟨by rw [HR.out]; rfl, (by repeat (first | (with_reducible exact Below.refl _ _) | (with_reducible refine Below.drew ?_) | (with_reducible refine below_drewN ?_ _) | ((with_reducible refine below_alloc ?_ ?_ _); · (first | exact Nat.le_refl _ | omega | (simp; done) | (simp; omega) | (simp at *; omega))) | ((with_reducible refine below_set ?_ ?_ _); · (first | exact Nat.le_refl _ | omega | (simp; done) | (simp; omega) | (simp at *; omega))) | ((with_reducible refine below_via (by with_reducible assumption) ?_ ?_); · (first | exact Nat.le_refl _ | omega | (simp; done) | (simp; omega) | (simp at *; omega)))))⟩
  | true =>
    have HR : Hid (gdRngB g = inB g.price 1 100) := Lib.hid (by simp [gdRngB, h1])
    go_enter Tryz.func86, Tryz.ntmps86
    go_wp2_with (go_at_call 67; refine (in_any _ _ _ _).mono ?_; rintro e w' ⟨rfl, rfl⟩)
    go_ret
    exact ⟨by rw [HR.out]; rfl, (by repeat (first | (with_reducible exact Below.refl _ _) | (with_reducible refine Below.drew ?_) | (with_reducible refine below_drewN ?_ _) | ((with_reducible refine below_alloc ?_ ?_ _); · (first | exact Nat.le_refl _ | omega | (simp; done) | (simp; omega) | (simp at *; omega))) | ((with_reducible refine below_set ?_ ?_ _); · (first | exact Nat.le_refl _ | omega | (simp; done) | (simp; omega) | (simp at *; omega))) | ((with_reducible refine below_via (by with_reducible assumption) ?_ ?_); · (first | exact Nat.le_refl _ | omega | (simp; done) | (simp; omega) | (simp at *; omega)))))⟩

set_option maxRecDepth 100000 in
set_option maxHeartbeats 1000000 in
theorem check3 (p : Pk) (hp : p.rng) (W : World) : Calls Tryz.prog 87 #[pkV p.s p.w p.o p.f] W fun e W' => e = .returned (.bool (decide (p.f ≤ p.hi))) ∧ Below W.heap.size W W' := by
  have HP := Lib.hid hp
  clear hp
  go_enter Tryz.func87, Tryz.ntmps87
  go_wp2_with fail
  go_region_held3 (fun w' => w'.cell? ⟨W.heap.size, 0, none⟩ = some (.int .i64 p.s) ∧ w'.cell? ⟨W.heap.size, 1, none⟩ = some (.int .i64 p.w) ∧ w'.cell? ⟨W.heap.size, 2, none⟩ = some (.int .i64 p.o) ∧ w'.cell? ⟨W.heap.size, 3, none⟩ = some (.int .i64 p.f)) ((go_split_ands; (repeat' refine And.intro ?_ ?_) <;> (repeat (first | (with_reducible assumption) | (simp; done) | (with_reducible refine cell_drew_of ?_) | (with_reducible refine cell_drewN_of ?_) | (with_reducible refine cell_below_of (by with_reducible assumption) ?_) | ((with_reducible refine cell_new_of ?_ ?_) <;> (first | (with_reducible rfl) | (simp; done))) | ((with_reducible refine fro_new_of ?_) <;> (first | (with_reducible rfl) | (simp; done))) | (with_reducible refine cell_alloc_of _ ?_) | (with_reducible refine cell_set_of _ (by (first | exact Nat.le_refl _ | omega | (simp; done) | (simp; omega) | (simp at *; omega))) ?_) | (with_reducible refine fro_drew_of ?_) | (with_reducible refine fro_drewN_of ?_) | (with_reducible refine fro_below_of (by with_reducible assumption) (by (first | exact Nat.le_refl _ | omega | (simp; done) | (simp; omega) | (simp at *; omega))) ?_) | (with_reducible refine fro_alloc_of _ (by (first | exact Nat.le_refl _ | omega | (simp; done) | (simp; omega) | (simp at *; omega))) ?_) | (with_reducible refine fro_set_of _ ?_))))) (first | (go_at_call 65; refine (pspan_any _ _ _ _ _ HP.out.1 HP.out.2.2.1 HP.out.2.2.2).mono ?_; rintro e w1 ⟨rfl, hb1⟩; obtain ⟨hc1, hf1⟩ := bcell hb1; have hz1 := hb1.size; (try simp only [World.size_drew, World.heap_drewN, World.size_alloc] at hz1)))
  clear hc1 hf1
  go_wp2_with fail
  go_ret
  exact ⟨rfl, (by repeat (first | (with_reducible exact Below.refl _ _) | (with_reducible refine Below.drew ?_) | (with_reducible refine below_drewN ?_ _) | ((with_reducible refine below_alloc ?_ ?_ _); · (first | exact Nat.le_refl _ | omega | (simp; done) | (simp; omega) | (simp at *; omega))) | ((with_reducible refine below_set ?_ ?_ _); · (first | exact Nat.le_refl _ | omega | (simp; done) | (simp; omega) | (simp at *; omega))) | ((with_reducible refine below_via (by with_reducible assumption) ?_ ?_); · (first | exact Nat.le_refl _ | omega | (simp; done) | (simp; omega) | (simp at *; omega)))))⟩

/-- a store's value -/
abbrev stV (pA : Option Addr) (n pc : Nat) (gA : Option Addr) (m gc : Nat) (l : Int) : Value := .agg #[.slice pA n pc, .slice gA m gc, .int .i64 l]

def upB (st : St) (k : Nat) : Bool := decide ((st.G k).foul < (st.G (k + 1)).foul) && decide ((st.G (k + 1)).price < (st.G k).price)
theorem allN_false {f : Nat → Bool} {n k : Nat} (hk : k < n) (h : f k = false) : allN f n = false := by
  cases h1 : allN f n with
  | false => rfl
  | true => have := allN_iff.1 h1 k hk; rw [h] at this; cases this
/-- the error of a store -/
def St.check (st : St) : Int :=
  if ¬ (1 ≤ st.n ∧ st.n ≤ 4) ∨ 4 < st.m then 3
  else if allN (fun k => pkRngB (st.P k)) st.n = false then 4
  else if allN (fun k => gdRngB (st.G k)) st.m = false ∨ inB st.lots 0 3 = false then 4
  else if allN (upB st) (st.m - 1) = false then 6
  else if allN (fun k => decide ((st.P k).f ≤ (st.P k).hi)) st.n = false then 7
  else 0

set_option maxRecDepth 100000 in
set_option maxHeartbeats 1000000 in
/-- a store with too few or too many pickings or grades -/
theorem check_count (st : St) (pA gA : Option Addr) (pc gc : Nat) (W : World) (hn : st.n ≤ 1000) (hm : st.m ≤ 1000) (hc : ¬ (1 ≤ st.n ∧ st.n ≤ 4) ∨ 4 < st.m) :
    Calls Tryz.prog 56 #[stV pA st.n pc gA st.m gc st.lots] W fun e W' => e = .returned (.int .i64 3) ∧ Below W.heap.size W W' := by
  cases h1 : inB st.n 1 4 with
  | false =>
    go_enter Tryz.func56, Tryz.ntmps56
    go_wp2_with (go_at_call 67; refine (in_any _ _ _ _).mono ?_; rintro e w' ⟨rfl, rfl⟩)
    go_ret
    exact ⟨rfl, (by repeat (first | (with_reducible exact Below.refl _ _) | (with_reducible refine Below.drew ?_) | (with_reducible refine below_drewN ?_ _) | ((with_reducible refine below_alloc ?_ ?_ _); · (first | exact Nat.le_refl _ | omega | (simp; done) | (simp; omega) | (simp at *; omega))) | ((with_reducible refine below_set ?_ ?_ _); · (first | exact Nat.le_refl _ | omega | (simp; done) | (simp; omega) | (simp at *; omega))) | ((with_reducible refine below_via (by with_reducible assumption) ?_ ?_); · (first | exact Nat.le_refl _ | omega | (simp; done) | (simp; omega) | (simp at *; omega)))))⟩
  | true =>
    have h2 : (4 : Int) < st.m := by simp [inB] at h1; omega
    go_enter Tryz.func56, Tryz.ntmps56
    go_wp2_with (go_at_call 67; refine (in_any _ _ _ _).mono ?_; rintro e w' ⟨rfl, rfl⟩)
    go_ret
    exact ⟨rfl, (by repeat (first | (with_reducible exact Below.refl _ _) | (with_reducible refine Below.drew ?_) | (with_reducible refine below_drewN ?_ _) | ((with_reducible refine below_alloc ?_ ?_ _); · (first | exact Nat.le_refl _ | omega | (simp; done) | (simp; omega) | (simp at *; omega))) | ((with_reducible refine below_set ?_ ?_ _); · (first | exact Nat.le_refl _ | omega | (simp; done) | (simp; omega) | (simp at *; omega))) | ((with_reducible refine below_via (by with_reducible assumption) ?_ ?_); · (first | exact Nat.le_refl _ | omega | (simp; done) | (simp; omega) | (simp at *; omega)))))⟩

set_option maxRecDepth 100000 in
set_option maxHeartbeats 1000000 in
/-- lot.Check where there are not too many -/
theorem check_in (st : St) (pA gA : Option Addr) (pc gc : Nat) (W : World) (hp : PkRow W W.heap.size pA st.n st.P) (hg : GdRow W W.heap.size gA st.m st.G) (h1 : 1 ≤ st.n) (h4 : st.n ≤ 4) (hm : st.m ≤ 4) (hpc : st.n ≤ pc) (hgc : st.m ≤ gc) :
    Calls Tryz.prog 56 #[stV pA st.n pc gA st.m gc st.lots] W fun e W' => e = .returned (.int .i64 st.check) ∧ Below W.heap.size W W' := by
  have HP := Lib.hid hp
  have HG := Lib.hid hg
  have i1 : inB st.n 1 4 = true := by simp [inB]; omega
  have i2 : decide ((4 : Int) < st.m) = false := by simp; omega
  have hc0 : ¬ (¬ (1 ≤ st.n ∧ st.n ≤ 4) ∨ 4 < st.m) := by omega
  have HC := Lib.hid hc0
  clear hp hg hc0
  go_enter Tryz.func56, Tryz.ntmps56
  go_wp2_with fail
  refine (in_any _ _ _ _).mono ?_
  rintro e w' ⟨rfl, rfl⟩
  go_wp2_with fail
  refine (every_pk pA st.n pc st.P _ ((HP.out.below (by repeat (first | (with_reducible exact Below.refl _ _) | (with_reducible refine Below.drew ?_) | (with_reducible refine below_drewN ?_ _) | ((with_reducible refine below_alloc ?_ ?_ _); · (first | exact Nat.le_refl _ | omega | (simp; done) | (simp; omega) | (simp at *; omega))) | ((with_reducible refine below_set ?_ ?_ _); · (first | exact Nat.le_refl _ | omega | (simp; done) | (simp; omega) | (simp at *; omega))) | ((with_reducible refine below_via (by with_reducible assumption) ?_ ?_); · (first | exact Nat.le_refl _ | omega | (simp; done) | (simp; omega) | (simp at *; omega)))))).mono (by (first | exact Nat.le_refl _ | omega | (simp; done) | (simp; omega) | (simp at *; omega)))) (by omega) 84 (fun k => pkRngB (st.P k)) (enters_of Tryz.func84 (by kernel_rfl) rfl) (fun k hk w => check1 (st.P k) w)).mono ?_
  rintro e w1 ⟨rfl, hb1⟩
  obtain ⟨hc1, hf1⟩ := bcell hb1; have hz1 := hb1.size; (try simp only [World.size_drew, World.heap_drewN, World.size_alloc] at hz1)
  cases h2 : allN (fun k => pkRngB (st.P k)) st.n with
  | false =>
    have HR : Hid (st.check = 4) := Lib.hid (by unfold St.check; rw [if_neg HC.out, if_pos h2])
    (go_wp2_with fail; go_ret; exact ⟨by rw [HR.out]; rfl, (by repeat (first | (with_reducible exact Below.refl _ _) | (with_reducible refine Below.drew ?_) | (with_reducible refine below_drewN ?_ _) | ((with_reducible refine below_alloc ?_ ?_ _); · (first | exact Nat.le_refl _ | omega | (simp; done) | (simp; omega) | (simp at *; omega))) | ((with_reducible refine below_set ?_ ?_ _); · (first | exact Nat.le_refl _ | omega | (simp; done) | (simp; omega) | (simp at *; omega))) | ((with_reducible refine below_via (by with_reducible assumption) ?_ ?_); · (first | exact Nat.le_refl _ | omega | (simp; done) | (simp; omega) | (simp at *; omega)))))⟩)
  | true =>
    have H2 := Lib.hid h2
    go_wp2_with fail
    refine (every_gd gA st.m gc st.G _ ((HG.out.below (by repeat (first | (with_reducible exact Below.refl _ _) | (with_reducible refine Below.drew ?_) | (with_reducible refine below_drewN ?_ _) | ((with_reducible refine below_alloc ?_ ?_ _); · (first | exact Nat.le_refl _ | omega | (simp; done) | (simp; omega) | (simp at *; omega))) | ((with_reducible refine below_set ?_ ?_ _); · (first | exact Nat.le_refl _ | omega | (simp; done) | (simp; omega) | (simp at *; omega))) | ((with_reducible refine below_via (by with_reducible assumption) ?_ ?_); · (first | exact Nat.le_refl _ | omega | (simp; done) | (simp; omega) | (simp at *; omega)))))).mono (by (first | exact Nat.le_refl _ | omega | (simp; done) | (simp; omega) | (simp at *; omega)))) (by omega) 86 (fun k => gdRngB (st.G k)) (enters_of Tryz.func86 (by kernel_rfl) rfl) (fun k hk w => check2 (st.G k) w)).mono ?_
    rintro e w2 ⟨rfl, hb2⟩
    have a0 : w1.cell? ⟨W.heap.size, 0, none⟩ = some (.slice pA st.n pc) := (by repeat (first | (with_reducible assumption) | (simp; done) | (with_reducible refine cell_drew_of ?_) | (with_reducible refine cell_drewN_of ?_) | (with_reducible refine cell_below_of (by with_reducible assumption) ?_) | ((with_reducible refine cell_new_of ?_ ?_) <;> (first | (with_reducible rfl) | (simp; done))) | ((with_reducible refine fro_new_of ?_) <;> (first | (with_reducible rfl) | (simp; done))) | (with_reducible refine cell_alloc_of _ ?_) | (with_reducible refine cell_set_of _ (by (first | exact Nat.le_refl _ | omega | (simp; done) | (simp; omega) | (simp at *; omega))) ?_) | (with_reducible refine fro_drew_of ?_) | (with_reducible refine fro_drewN_of ?_) | (with_reducible refine fro_below_of (by with_reducible assumption) (by (first | exact Nat.le_refl _ | omega | (simp; done) | (simp; omega) | (simp at *; omega))) ?_) | (with_reducible refine fro_alloc_of _ (by (first | exact Nat.le_refl _ | omega | (simp; done) | (simp; omega) | (simp at *; omega))) ?_) | (with_reducible refine fro_set_of _ ?_)))
    have a1 : w1.cell? ⟨W.heap.size, 1, none⟩ = some (.slice gA st.m gc) := (by repeat (first | (with_reducible assumption) | (simp; done) | (with_reducible refine cell_drew_of ?_) | (with_reducible refine cell_drewN_of ?_) | (with_reducible refine cell_below_of (by with_reducible assumption) ?_) | ((with_reducible refine cell_new_of ?_ ?_) <;> (first | (with_reducible rfl) | (simp; done))) | ((with_reducible refine fro_new_of ?_) <;> (first | (with_reducible rfl) | (simp; done))) | (with_reducible refine cell_alloc_of _ ?_) | (with_reducible refine cell_set_of _ (by (first | exact Nat.le_refl _ | omega | (simp; done) | (simp; omega) | (simp at *; omega))) ?_) | (with_reducible refine fro_drew_of ?_) | (with_reducible refine fro_drewN_of ?_) | (with_reducible refine fro_below_of (by with_reducible assumption) (by (first | exact Nat.le_refl _ | omega | (simp; done) | (simp; omega) | (simp at *; omega))) ?_) | (with_reducible refine fro_alloc_of _ (by (first | exact Nat.le_refl _ | omega | (simp; done) | (simp; omega) | (simp at *; omega))) ?_) | (with_reducible refine fro_set_of _ ?_)))
    have a2 : w1.cell? ⟨W.heap.size, 2, none⟩ = some (.int .i64 st.lots) := (by repeat (first | (with_reducible assumption) | (simp; done) | (with_reducible refine cell_drew_of ?_) | (with_reducible refine cell_drewN_of ?_) | (with_reducible refine cell_below_of (by with_reducible assumption) ?_) | ((with_reducible refine cell_new_of ?_ ?_) <;> (first | (with_reducible rfl) | (simp; done))) | ((with_reducible refine fro_new_of ?_) <;> (first | (with_reducible rfl) | (simp; done))) | (with_reducible refine cell_alloc_of _ ?_) | (with_reducible refine cell_set_of _ (by (first | exact Nat.le_refl _ | omega | (simp; done) | (simp; omega) | (simp at *; omega))) ?_) | (with_reducible refine fro_drew_of ?_) | (with_reducible refine fro_drewN_of ?_) | (with_reducible refine fro_below_of (by with_reducible assumption) (by (first | exact Nat.le_refl _ | omega | (simp; done) | (simp; omega) | (simp at *; omega))) ?_) | (with_reducible refine fro_alloc_of _ (by (first | exact Nat.le_refl _ | omega | (simp; done) | (simp; omega) | (simp at *; omega))) ?_) | (with_reducible refine fro_set_of _ ?_)))
    clear hc1 hf1
    obtain ⟨hc2, hf2⟩ := bcell hb2; have hz2 := hb2.size; (try simp only [World.size_drew, World.heap_drewN, World.size_alloc] at hz2)
    cases h3 : allN (fun k => gdRngB (st.G k)) st.m with
    | false =>
      have HR : Hid (st.check = 4) := Lib.hid (by unfold St.check; rw [if_neg HC.out, if_neg (by rw [H2.out]; decide), if_pos (.inl h3)])
      (go_wp2_with fail; go_ret; exact ⟨by rw [HR.out]; rfl, (by repeat (first | (with_reducible exact Below.refl _ _) | (with_reducible refine Below.drew ?_) | (with_reducible refine below_drewN ?_ _) | ((with_reducible refine below_alloc ?_ ?_ _); · (first | exact Nat.le_refl _ | omega | (simp; done) | (simp; omega) | (simp at *; omega))) | ((with_reducible refine below_set ?_ ?_ _); · (first | exact Nat.le_refl _ | omega | (simp; done) | (simp; omega) | (simp at *; omega))) | ((with_reducible refine below_via (by with_reducible assumption) ?_ ?_); · (first | exact Nat.le_refl _ | omega | (simp; done) | (simp; omega) | (simp at *; omega)))))⟩)
    | true =>
      have H3 := Lib.hid h3
      cases h4' : inB st.lots 0 3 with
      | false =>
        have HR : Hid (st.check = 4) := Lib.hid (by unfold St.check; rw [if_neg HC.out, if_neg (by rw [H2.out]; decide), if_pos (.inr h4')])
        go_wp2_with (go_at_call 67; refine (in_any _ _ _ _).mono ?_; rintro e w' ⟨rfl, rfl⟩)
        go_ret
        exact ⟨by rw [HR.out]; rfl, (by repeat (first | (with_reducible exact Below.refl _ _) | (with_reducible refine Below.drew ?_) | (with_reducible refine below_drewN ?_ _) | ((with_reducible refine below_alloc ?_ ?_ _); · (first | exact Nat.le_refl _ | omega | (simp; done) | (simp; omega) | (simp at *; omega))) | ((with_reducible refine below_set ?_ ?_ _); · (first | exact Nat.le_refl _ | omega | (simp; done) | (simp; omega) | (simp at *; omega))) | ((with_reducible refine below_via (by with_reducible assumption) ?_ ?_); · (first | exact Nat.le_refl _ | omega | (simp; done) | (simp; omega) | (simp at *; omega)))))⟩
      | true =>
        have H4 := Lib.hid h4'
        have HN : Hid (¬ (allN (fun k => gdRngB (st.G k)) st.m = false ∨ inB st.lots 0 3 = false)) := Lib.hid (by rw [H3.out, H4.out]; simp)
        have d0 : w2.cell? ⟨W.heap.size, 0, none⟩ = some (.slice pA st.n pc) := (by repeat (first | (with_reducible assumption) | (simp; done) | (with_reducible refine cell_drew_of ?_) | (with_reducible refine cell_drewN_of ?_) | (with_reducible refine cell_below_of (by with_reducible assumption) ?_) | ((with_reducible refine cell_new_of ?_ ?_) <;> (first | (with_reducible rfl) | (simp; done))) | ((with_reducible refine fro_new_of ?_) <;> (first | (with_reducible rfl) | (simp; done))) | (with_reducible refine cell_alloc_of _ ?_) | (with_reducible refine cell_set_of _ (by (first | exact Nat.le_refl _ | omega | (simp; done) | (simp; omega) | (simp at *; omega))) ?_) | (with_reducible refine fro_drew_of ?_) | (with_reducible refine fro_drewN_of ?_) | (with_reducible refine fro_below_of (by with_reducible assumption) (by (first | exact Nat.le_refl _ | omega | (simp; done) | (simp; omega) | (simp at *; omega))) ?_) | (with_reducible refine fro_alloc_of _ (by (first | exact Nat.le_refl _ | omega | (simp; done) | (simp; omega) | (simp at *; omega))) ?_) | (with_reducible refine fro_set_of _ ?_)))
        have d1 : w2.cell? ⟨W.heap.size, 1, none⟩ = some (.slice gA st.m gc) := (by repeat (first | (with_reducible assumption) | (simp; done) | (with_reducible refine cell_drew_of ?_) | (with_reducible refine cell_drewN_of ?_) | (with_reducible refine cell_below_of (by with_reducible assumption) ?_) | ((with_reducible refine cell_new_of ?_ ?_) <;> (first | (with_reducible rfl) | (simp; done))) | ((with_reducible refine fro_new_of ?_) <;> (first | (with_reducible rfl) | (simp; done))) | (with_reducible refine cell_alloc_of _ ?_) | (with_reducible refine cell_set_of _ (by (first | exact Nat.le_refl _ | omega | (simp; done) | (simp; omega) | (simp at *; omega))) ?_) | (with_reducible refine fro_drew_of ?_) | (with_reducible refine fro_drewN_of ?_) | (with_reducible refine fro_below_of (by with_reducible assumption) (by (first | exact Nat.le_refl _ | omega | (simp; done) | (simp; omega) | (simp at *; omega))) ?_) | (with_reducible refine fro_alloc_of _ (by (first | exact Nat.le_refl _ | omega | (simp; done) | (simp; omega) | (simp at *; omega))) ?_) | (with_reducible refine fro_set_of _ ?_)))
        have d2 : w2.cell? ⟨W.heap.size, 2, none⟩ = some (.int .i64 st.lots) := (by repeat (first | (with_reducible assumption) | (simp; done) | (with_reducible refine cell_drew_of ?_) | (with_reducible refine cell_drewN_of ?_) | (with_reducible refine cell_below_of (by with_reducible assumption) ?_) | ((with_reducible refine cell_new_of ?_ ?_) <;> (first | (with_reducible rfl) | (simp; done))) | ((with_reducible refine fro_new_of ?_) <;> (first | (with_reducible rfl) | (simp; done))) | (with_reducible refine cell_alloc_of _ ?_) | (with_reducible refine cell_set_of _ (by (first | exact Nat.le_refl _ | omega | (simp; done) | (simp; omega) | (simp at *; omega))) ?_) | (with_reducible refine fro_drew_of ?_) | (with_reducible refine fro_drewN_of ?_) | (with_reducible refine fro_below_of (by with_reducible assumption) (by (first | exact Nat.le_refl _ | omega | (simp; done) | (simp; omega) | (simp at *; omega))) ?_) | (with_reducible refine fro_alloc_of _ (by (first | exact Nat.le_refl _ | omega | (simp; done) | (simp; omega) | (simp at *; omega))) ?_) | (with_reducible refine fro_set_of _ ?_)))
        have hy : Hid (Below W.heap.size W w2) := Lib.hid (by repeat (first | (with_reducible exact Below.refl _ _) | (with_reducible refine Below.drew ?_) | (with_reducible refine below_drewN ?_ _) | ((with_reducible refine below_alloc ?_ ?_ _); · (first | exact Nat.le_refl _ | omega | (simp; done) | (simp; omega) | (simp at *; omega))) | ((with_reducible refine below_set ?_ ?_ _); · (first | exact Nat.le_refl _ | omega | (simp; done) | (simp; omega) | (simp at *; omega))) | ((with_reducible refine below_via (by with_reducible assumption) ?_ ?_); · (first | exact Nat.le_refl _ | omega | (simp; done) | (simp; omega) | (simp at *; omega)))))
        clear hc2 hf2 hb1 hb2 a0 a1
        by_cases hm0 : st.m = 0
        · have e0 : ((st.m : Nat) : Int) = 0 := by omega
          have e1 : min (1 : Int) 0 = 0 := by decide
          have HU : Hid (allN (upB st) (st.m - 1) = true) := Lib.hid (by rw [hm0]; rfl)
          go_wp2_with (go_at_call 67; refine (in_any _ _ _ _).mono ?_; rintro e w' ⟨rfl, rfl⟩)
          all_goals
            go_loopw [42] (fun i wr => i = .int .i64 0 ∧ Hid (Below w2.heap.size w2 wr)) (fun _ _ => 0)
            case atStart => exact ⟨rfl, Lib.hid (Below.refl _ _)⟩
            case round =>
              obtain ⟨rfl, HBW⟩ := hrel
              have hs9 := HBW.out.size
              have hs8 := hy.out.size
              have hyo := hy.out
              have hbo := HBW.out
              have f1 : wr.cell? ⟨W.heap.size, 0, none⟩ = some (.slice pA st.n pc) := (by repeat (first | (with_reducible assumption) | (simp; done) | (with_reducible refine cell_drew_of ?_) | (with_reducible refine cell_drewN_of ?_) | (with_reducible refine cell_below_of (by with_reducible assumption) ?_) | ((with_reducible refine cell_new_of ?_ ?_) <;> (first | (with_reducible rfl) | (simp; done))) | ((with_reducible refine fro_new_of ?_) <;> (first | (with_reducible rfl) | (simp; done))) | (with_reducible refine cell_alloc_of _ ?_) | (with_reducible refine cell_set_of _ (by (first | exact Nat.le_refl _ | omega | (simp; done) | (simp; omega) | (simp at *; omega))) ?_) | (with_reducible refine fro_drew_of ?_) | (with_reducible refine fro_drewN_of ?_) | (with_reducible refine fro_below_of (by with_reducible assumption) (by (first | exact Nat.le_refl _ | omega | (simp; done) | (simp; omega) | (simp at *; omega))) ?_) | (with_reducible refine fro_alloc_of _ (by (first | exact Nat.le_refl _ | omega | (simp; done) | (simp; omega) | (simp at *; omega))) ?_) | (with_reducible refine fro_set_of _ ?_)))
              have hrow : Hid (PkRow wr wr.heap.size pA st.n st.P) := Lib.hid ((HP.out.below (by repeat (first | (with_reducible exact Below.refl _ _) | (with_reducible refine Below.drew ?_) | (with_reducible refine below_drewN ?_ _) | ((with_reducible refine below_alloc ?_ ?_ _); · (first | exact Nat.le_refl _ | omega | (simp; done) | (simp; omega) | (simp at *; omega))) | ((with_reducible refine below_set ?_ ?_ _); · (first | exact Nat.le_refl _ | omega | (simp; done) | (simp; omega) | (simp at *; omega))) | ((with_reducible refine below_via (by with_reducible assumption) ?_ ?_); · (first | exact Nat.le_refl _ | omega | (simp; done) | (simp; omega) | (simp at *; omega)))))).mono (by (first | exact Nat.le_refl _ | omega | (simp; done) | (simp; omega) | (simp at *; omega))))
              have hwr : Hid (Below W.heap.size W wr) := Lib.hid (by repeat (first | (with_reducible exact Below.refl _ _) | (with_reducible refine Below.drew ?_) | (with_reducible refine below_drewN ?_ _) | ((with_reducible refine below_alloc ?_ ?_ _); · (first | exact Nat.le_refl _ | omega | (simp; done) | (simp; omega) | (simp at *; omega))) | ((with_reducible refine below_set ?_ ?_ _); · (first | exact Nat.le_refl _ | omega | (simp; done) | (simp; omega) | (simp at *; omega))) | ((with_reducible refine below_via (by with_reducible assumption) ?_ ?_); · (first | exact Nat.le_refl _ | omega | (simp; done) | (simp; omega) | (simp at *; omega)))))
              clear hyo hbo
              go_wp2_with fail
              refine (every_pk pA st.n pc st.P _ hrow.out (by omega) 87 (fun k => decide ((st.P k).f ≤ (st.P k).hi)) (enters_of Tryz.func87 (by kernel_rfl) rfl) (fun k hk w => check3 (st.P k) (pkRngB_iff.1 (allN_iff.1 H2.out k hk)) w)).mono ?_
              rintro e w3 ⟨rfl, hb3⟩
              have hyo := hwr.out
              cases h5 : allN (fun k => decide ((st.P k).f ≤ (st.P k).hi)) st.n with
              | false =>
                have HR : Hid (st.check = 7) := Lib.hid (by unfold St.check; rw [if_neg HC.out, if_neg (by rw [H2.out]; decide), if_neg HN.out, if_neg (by rw [HU.out]; decide), if_pos h5])
                (go_wp2_with fail; go_ret; exact ⟨by rw [HR.out]; rfl, (by repeat (first | (with_reducible exact Below.refl _ _) | (with_reducible refine Below.drew ?_) | (with_reducible refine below_drewN ?_ _) | ((with_reducible refine below_alloc ?_ ?_ _); · (first | exact Nat.le_refl _ | omega | (simp; done) | (simp; omega) | (simp at *; omega))) | ((with_reducible refine below_set ?_ ?_ _); · (first | exact Nat.le_refl _ | omega | (simp; done) | (simp; omega) | (simp at *; omega))) | ((with_reducible refine below_via (by with_reducible assumption) ?_ ?_); · (first | exact Nat.le_refl _ | omega | (simp; done) | (simp; omega) | (simp at *; omega)))))⟩)
              | true =>
                have HR : Hid (st.check = 0) := Lib.hid (by unfold St.check; rw [if_neg HC.out, if_neg (by rw [H2.out]; decide), if_neg HN.out, if_neg (by rw [HU.out]; decide), if_neg (by rw [h5]; decide)])
                (go_wp2_with fail; go_ret; exact ⟨by rw [HR.out]; rfl, (by repeat (first | (with_reducible exact Below.refl _ _) | (with_reducible refine Below.drew ?_) | (with_reducible refine below_drewN ?_ _) | ((with_reducible refine below_alloc ?_ ?_ _); · (first | exact Nat.le_refl _ | omega | (simp; done) | (simp; omega) | (simp at *; omega))) | ((with_reducible refine below_set ?_ ?_ _); · (first | exact Nat.le_refl _ | omega | (simp; done) | (simp; omega) | (simp at *; omega))) | ((with_reducible refine below_via (by with_reducible assumption) ?_ ?_); · (first | exact Nat.le_refl _ | omega | (simp; done) | (simp; omega) | (simp at *; omega)))))⟩)
        · have e0 : min 1 ((st.m : Nat) : Int) = 1 := by omega
          have hm1 : (1 : Int) ≤ ((st.m : Nat) : Int) := by omega
          go_wp2_with (go_at_call 67; refine (in_any _ _ _ _).mono ?_; rintro e w' ⟨rfl, rfl⟩)
          all_goals
            go_loopw [42] (fun i wr => ∃ k : Nat, k ≤ st.m - 1 ∧ i = .int .i64 k ∧ Hid (∀ j, j < k → upB st j = true) ∧ Hid (Below w2.heap.size w2 wr)) (fun i _ => st.m - (intOf i).toNat)
            case atStart => exact ⟨0, Nat.zero_le _, rfl, Lib.hid (fun j hj => absurd hj (by omega)), Lib.hid (Below.refl _ _)⟩
            case round =>
              obtain ⟨k, hk, rfl, hall, HBW⟩ := hrel
              have hs9 := HBW.out.size
              have hs8 := hy.out.size
              by_cases hlt : k + 1 < st.m
              · obtain ⟨b, o, hA, hb', c0, c1⟩ := (HG.out.below hy.out) k (by omega)
                obtain ⟨b2, o2, hA2, hb2', c2, c3⟩ := (HG.out.below hy.out) (k + 1) hlt
                subst hA
                obtain ⟨rfl, rfl⟩ : b = b2 ∧ o = o2 := by injection hA2 with h; injection h with h1 h2; exact ⟨h1, h2⟩
                clear hA2 hb2'
                (try (exfalso; omega))
                all_goals
                  have hlt1 : (k : Int) < (st.m : Int) := by omega
                  have hlt2 : (k : Int) + 1 < (st.m : Int) := by omega
                  have hk0 : (0 : Int) ≤ (k : Int) := by omega
                  have hk1 : (0 : Int) ≤ (k : Int) + 1 := by omega
                  have ew : IntKind.i64.wrap ((k : Int) + 1) = (k : Int) + 1 := IntWalk.i64_in _ (by omega)
                  have et : ((k : Int) + 1).toNat = k + 1 := by omega
                  have hbw := HBW.out
                  have f1 : wr.cell? ⟨W.heap.size, 1, none⟩ = some (.slice (some ⟨b, o, none⟩) st.m gc) := (by repeat (first | (with_reducible assumption) | (simp; done) | (with_reducible refine cell_drew_of ?_) | (with_reducible refine cell_drewN_of ?_) | (with_reducible refine cell_below_of (by with_reducible assumption) ?_) | ((with_reducible refine cell_new_of ?_ ?_) <;> (first | (with_reducible rfl) | (simp; done))) | ((with_reducible refine fro_new_of ?_) <;> (first | (with_reducible rfl) | (simp; done))) | (with_reducible refine cell_alloc_of _ ?_) | (with_reducible refine cell_set_of _ (by (first | exact Nat.le_refl _ | omega | (simp; done) | (simp; omega) | (simp at *; omega))) ?_) | (with_reducible refine fro_drew_of ?_) | (with_reducible refine fro_drewN_of ?_) | (with_reducible refine fro_below_of (by with_reducible assumption) (by (first | exact Nat.le_refl _ | omega | (simp; done) | (simp; omega) | (simp at *; omega))) ?_) | (with_reducible refine fro_alloc_of _ (by (first | exact Nat.le_refl _ | omega | (simp; done) | (simp; omega) | (simp at *; omega))) ?_) | (with_reducible refine fro_set_of _ ?_)))
                  have f2 : wr.cell? ⟨b, o + k * 2, none⟩ = some (.int .i64 (st.G k).foul) := (by repeat (first | (with_reducible assumption) | (simp; done) | (with_reducible refine cell_drew_of ?_) | (with_reducible refine cell_drewN_of ?_) | (with_reducible refine cell_below_of (by with_reducible assumption) ?_) | ((with_reducible refine cell_new_of ?_ ?_) <;> (first | (with_reducible rfl) | (simp; done))) | ((with_reducible refine fro_new_of ?_) <;> (first | (with_reducible rfl) | (simp; done))) | (with_reducible refine cell_alloc_of _ ?_) | (with_reducible refine cell_set_of _ (by (first | exact Nat.le_refl _ | omega | (simp; done) | (simp; omega) | (simp at *; omega))) ?_) | (with_reducible refine fro_drew_of ?_) | (with_reducible refine fro_drewN_of ?_) | (with_reducible refine fro_below_of (by with_reducible assumption) (by (first | exact Nat.le_refl _ | omega | (simp; done) | (simp; omega) | (simp at *; omega))) ?_) | (with_reducible refine fro_alloc_of _ (by (first | exact Nat.le_refl _ | omega | (simp; done) | (simp; omega) | (simp at *; omega))) ?_) | (with_reducible refine fro_set_of _ ?_)))
                  have f3 : wr.cell? ⟨b, o + k * 2 + 1, none⟩ = some (.int .i64 (st.G k).price) := (by repeat (first | (with_reducible assumption) | (simp; done) | (with_reducible refine cell_drew_of ?_) | (with_reducible refine cell_drewN_of ?_) | (with_reducible refine cell_below_of (by with_reducible assumption) ?_) | ((with_reducible refine cell_new_of ?_ ?_) <;> (first | (with_reducible rfl) | (simp; done))) | ((with_reducible refine fro_new_of ?_) <;> (first | (with_reducible rfl) | (simp; done))) | (with_reducible refine cell_alloc_of _ ?_) | (with_reducible refine cell_set_of _ (by (first | exact Nat.le_refl _ | omega | (simp; done) | (simp; omega) | (simp at *; omega))) ?_) | (with_reducible refine fro_drew_of ?_) | (with_reducible refine fro_drewN_of ?_) | (with_reducible refine fro_below_of (by with_reducible assumption) (by (first | exact Nat.le_refl _ | omega | (simp; done) | (simp; omega) | (simp at *; omega))) ?_) | (with_reducible refine fro_alloc_of _ (by (first | exact Nat.le_refl _ | omega | (simp; done) | (simp; omega) | (simp at *; omega))) ?_) | (with_reducible refine fro_set_of _ ?_)))
                  have f4 : wr.cell? ⟨b, o + (k + 1) * 2, none⟩ = some (.int .i64 (st.G (k + 1)).foul) := (by repeat (first | (with_reducible assumption) | (simp; done) | (with_reducible refine cell_drew_of ?_) | (with_reducible refine cell_drewN_of ?_) | (with_reducible refine cell_below_of (by with_reducible assumption) ?_) | ((with_reducible refine cell_new_of ?_ ?_) <;> (first | (with_reducible rfl) | (simp; done))) | ((with_reducible refine fro_new_of ?_) <;> (first | (with_reducible rfl) | (simp; done))) | (with_reducible refine cell_alloc_of _ ?_) | (with_reducible refine cell_set_of _ (by (first | exact Nat.le_refl _ | omega | (simp; done) | (simp; omega) | (simp at *; omega))) ?_) | (with_reducible refine fro_drew_of ?_) | (with_reducible refine fro_drewN_of ?_) | (with_reducible refine fro_below_of (by with_reducible assumption) (by (first | exact Nat.le_refl _ | omega | (simp; done) | (simp; omega) | (simp at *; omega))) ?_) | (with_reducible refine fro_alloc_of _ (by (first | exact Nat.le_refl _ | omega | (simp; done) | (simp; omega) | (simp at *; omega))) ?_) | (with_reducible refine fro_set_of _ ?_)))
                  have f5 : wr.cell? ⟨b, o + (k + 1) * 2 + 1, none⟩ = some (.int .i64 (st.G (k + 1)).price) := (by repeat (first | (with_reducible assumption) | (simp; done) | (with_reducible refine cell_drew_of ?_) | (with_reducible refine cell_drewN_of ?_) | (with_reducible refine cell_below_of (by with_reducible assumption) ?_) | ((with_reducible refine cell_new_of ?_ ?_) <;> (first | (with_reducible rfl) | (simp; done))) | ((with_reducible refine fro_new_of ?_) <;> (first | (with_reducible rfl) | (simp; done))) | (with_reducible refine cell_alloc_of _ ?_) | (with_reducible refine cell_set_of _ (by (first | exact Nat.le_refl _ | omega | (simp; done) | (simp; omega) | (simp at *; omega))) ?_) | (with_reducible refine fro_drew_of ?_) | (with_reducible refine fro_drewN_of ?_) | (with_reducible refine fro_below_of (by with_reducible assumption) (by (first | exact Nat.le_refl _ | omega | (simp; done) | (simp; omega) | (simp at *; omega))) ?_) | (with_reducible refine fro_alloc_of _ (by (first | exact Nat.le_refl _ | omega | (simp; done) | (simp; omega) | (simp at *; omega))) ?_) | (with_reducible refine fro_set_of _ ?_)))
                  clear hbw
                  go_wp2_with fail
                  go_region_held3 (fun w' => w'.cell? ⟨W.heap.size, 1, none⟩ = some (.slice (some ⟨b, o, none⟩) st.m gc) ∧ w'.cell? ⟨b, o + k * 2, none⟩ = some (.int .i64 (st.G k).foul) ∧ w'.cell? ⟨b, o + k * 2 + 1, none⟩ = some (.int .i64 (st.G k).price) ∧ w'.cell? ⟨b, o + (k + 1) * 2, none⟩ = some (.int .i64 (st.G (k + 1)).foul) ∧ w'.cell? ⟨b, o + (k + 1) * 2 + 1, none⟩ = some (.int .i64 (st.G (k + 1)).price)) ((go_split_ands; (repeat' refine And.intro ?_ ?_) <;> (repeat (first | (with_reducible assumption) | (simp; done) | (with_reducible refine cell_drew_of ?_) | (with_reducible refine cell_drewN_of ?_) | (with_reducible refine cell_below_of (by with_reducible assumption) ?_) | ((with_reducible refine cell_new_of ?_ ?_) <;> (first | (with_reducible rfl) | (simp; done))) | ((with_reducible refine fro_new_of ?_) <;> (first | (with_reducible rfl) | (simp; done))) | (with_reducible refine cell_alloc_of _ ?_) | (with_reducible refine cell_set_of _ (by (first | exact Nat.le_refl _ | omega | (simp; done) | (simp; omega) | (simp at *; omega))) ?_) | (with_reducible refine fro_drew_of ?_) | (with_reducible refine fro_drewN_of ?_) | (with_reducible refine fro_below_of (by with_reducible assumption) (by (first | exact Nat.le_refl _ | omega | (simp; done) | (simp; omega) | (simp at *; omega))) ?_) | (with_reducible refine fro_alloc_of _ (by (first | exact Nat.le_refl _ | omega | (simp; done) | (simp; omega) | (simp at *; omega))) ?_) | (with_reducible refine fro_set_of _ ?_))))) (fail)
                  all_goals
                    have hyo := hy.out
                    have hbo := HBW.out
                    by_cases z1 : (st.G (k + 1)).foul ≤ (st.G k).foul
                    · have HR : Hid (st.check = 6) := Lib.hid (by unfold St.check; rw [if_neg HC.out, if_neg (by rw [H2.out]; decide), if_neg HN.out, if_pos (allN_false (k := k) (by omega) (by simp [upB]; omega))])
                      (go_wp2_with fail; go_ret; exact ⟨by rw [HR.out]; rfl, (by repeat (first | (with_reducible exact Below.refl _ _) | (with_reducible refine Below.drew ?_) | (with_reducible refine below_drewN ?_ _) | ((with_reducible refine below_alloc ?_ ?_ _); · (first | exact Nat.le_refl _ | omega | (simp; done) | (simp; omega) | (simp at *; omega))) | ((with_reducible refine below_set ?_ ?_ _); · (first | exact Nat.le_refl _ | omega | (simp; done) | (simp; omega) | (simp at *; omega))) | ((with_reducible refine below_via (by with_reducible assumption) ?_ ?_); · (first | exact Nat.le_refl _ | omega | (simp; done) | (simp; omega) | (simp at *; omega)))))⟩)
                    · by_cases z2 : (st.G k).price ≤ (st.G (k + 1)).price
                      · have HR : Hid (st.check = 6) := Lib.hid (by unfold St.check; rw [if_neg HC.out, if_neg (by rw [H2.out]; decide), if_neg HN.out, if_pos (allN_false (k := k) (by omega) (by simp [upB]; omega))])
                        (go_wp2_with fail; go_ret; exact ⟨by rw [HR.out]; rfl, (by repeat (first | (with_reducible exact Below.refl _ _) | (with_reducible refine Below.drew ?_) | (with_reducible refine below_drewN ?_ _) | ((with_reducible refine below_alloc ?_ ?_ _); · (first | exact Nat.le_refl _ | omega | (simp; done) | (simp; omega) | (simp at *; omega))) | ((with_reducible refine below_set ?_ ?_ _); · (first | exact Nat.le_refl _ | omega | (simp; done) | (simp; omega) | (simp at *; omega))) | ((with_reducible refine below_via (by with_reducible assumption) ?_ ?_); · (first | exact Nat.le_refl _ | omega | (simp; done) | (simp; omega) | (simp at *; omega)))))⟩)
                      · have HU : Hid (upB st k = true) := Lib.hid (by simp [upB]; omega)
                        have hbw : Hid (Below w2.heap.size w2 ((wr.alloc (Obj.cells #[Value.int .i64 0, Value.int .i64 0] 58)))) := Lib.hid (by repeat (first | (with_reducible exact Below.refl _ _) | (with_reducible refine Below.drew ?_) | (with_reducible refine below_drewN ?_ _) | ((with_reducible refine below_alloc ?_ ?_ _); · (first | exact Nat.le_refl _ | omega | (simp; done) | (simp; omega) | (simp at *; omega))) | ((with_reducible refine below_set ?_ ?_ _); · (first | exact Nat.le_refl _ | omega | (simp; done) | (simp; omega) | (simp at *; omega))) | ((with_reducible refine below_via (by with_reducible assumption) ?_ ?_); · (first | exact Nat.le_refl _ | omega | (simp; done) | (simp; omega) | (simp at *; omega)))))
                        clear hyo hbo
                        go_wp2_with fail
                        go_roundw
                        case rel =>
                          (repeat apply Exists.intro)
                          refine ⟨?_, rfl, rfl, rfl, rfl, rfl⟩
                          exact ⟨k + 1, by omega, by go_num, Lib.hid (fun j hj => by rcases Nat.lt_or_ge j k with h | h; exact hall.out j h; rw [show j = k from by omega]; exact HU.out), Lib.hid (by have hbo := HBW.out; exact (by repeat (first | (with_reducible exact Below.refl _ _) | (with_reducible refine Below.drew ?_) | (with_reducible refine below_drewN ?_ _) | ((with_reducible refine below_alloc ?_ ?_ _); · (first | exact Nat.le_refl _ | omega | (simp; done) | (simp; omega) | (simp at *; omega))) | ((with_reducible refine below_set ?_ ?_ _); · (first | exact Nat.le_refl _ | omega | (simp; done) | (simp; omega) | (simp at *; omega))) | ((with_reducible refine below_via (by with_reducible assumption) ?_ ?_); · (first | exact Nat.le_refl _ | omega | (simp; done) | (simp; omega) | (simp at *; omega))))))⟩
                        case measure => simp [intOf]; omega
              · have hk' : k = st.m - 1 := by omega
                have HU : Hid (allN (upB st) (st.m - 1) = true) := Lib.hid (allN_iff.2 (by rw [← hk']; exact hall.out))
                have hyo := hy.out
                have hbo := HBW.out
                have f1 : wr.cell? ⟨W.heap.size, 0, none⟩ = some (.slice pA st.n pc) := (by repeat (first | (with_reducible assumption) | (simp; done) | (with_reducible refine cell_drew_of ?_) | (with_reducible refine cell_drewN_of ?_) | (with_reducible refine cell_below_of (by with_reducible assumption) ?_) | ((with_reducible refine cell_new_of ?_ ?_) <;> (first | (with_reducible rfl) | (simp; done))) | ((with_reducible refine fro_new_of ?_) <;> (first | (with_reducible rfl) | (simp; done))) | (with_reducible refine cell_alloc_of _ ?_) | (with_reducible refine cell_set_of _ (by (first | exact Nat.le_refl _ | omega | (simp; done) | (simp; omega) | (simp at *; omega))) ?_) | (with_reducible refine fro_drew_of ?_) | (with_reducible refine fro_drewN_of ?_) | (with_reducible refine fro_below_of (by with_reducible assumption) (by (first | exact Nat.le_refl _ | omega | (simp; done) | (simp; omega) | (simp at *; omega))) ?_) | (with_reducible refine fro_alloc_of _ (by (first | exact Nat.le_refl _ | omega | (simp; done) | (simp; omega) | (simp at *; omega))) ?_) | (with_reducible refine fro_set_of _ ?_)))
                have hrow : Hid (PkRow wr wr.heap.size pA st.n st.P) := Lib.hid ((HP.out.below (by repeat (first | (with_reducible exact Below.refl _ _) | (with_reducible refine Below.drew ?_) | (with_reducible refine below_drewN ?_ _) | ((with_reducible refine below_alloc ?_ ?_ _); · (first | exact Nat.le_refl _ | omega | (simp; done) | (simp; omega) | (simp at *; omega))) | ((with_reducible refine below_set ?_ ?_ _); · (first | exact Nat.le_refl _ | omega | (simp; done) | (simp; omega) | (simp at *; omega))) | ((with_reducible refine below_via (by with_reducible assumption) ?_ ?_); · (first | exact Nat.le_refl _ | omega | (simp; done) | (simp; omega) | (simp at *; omega)))))).mono (by (first | exact Nat.le_refl _ | omega | (simp; done) | (simp; omega) | (simp at *; omega))))
                have hwr : Hid (Below W.heap.size W wr) := Lib.hid (by repeat (first | (with_reducible exact Below.refl _ _) | (with_reducible refine Below.drew ?_) | (with_reducible refine below_drewN ?_ _) | ((with_reducible refine below_alloc ?_ ?_ _); · (first | exact Nat.le_refl _ | omega | (simp; done) | (simp; omega) | (simp at *; omega))) | ((with_reducible refine below_set ?_ ?_ _); · (first | exact Nat.le_refl _ | omega | (simp; done) | (simp; omega) | (simp at *; omega))) | ((with_reducible refine below_via (by with_reducible assumption) ?_ ?_); · (first | exact Nat.le_refl _ | omega | (simp; done) | (simp; omega) | (simp at *; omega)))))
                clear hyo hbo
                go_wp2_with fail
                refine (every_pk pA st.n pc st.P _ hrow.out (by omega) 87 (fun k => decide ((st.P k).f ≤ (st.P k).hi)) (enters_of Tryz.func87 (by kernel_rfl) rfl) (fun k hk w => check3 (st.P k) (pkRngB_iff.1 (allN_iff.1 H2.out k hk)) w)).mono ?_
                rintro e w3 ⟨rfl, hb3⟩
                have hyo := hwr.out
                cases h5 : allN (fun k => decide ((st.P k).f ≤ (st.P k).hi)) st.n with
                | false =>
                  have HR : Hid (st.check = 7) := Lib.hid (by unfold St.check; rw [if_neg HC.out, if_neg (by rw [H2.out]; decide), if_neg HN.out, if_neg (by rw [HU.out]; decide), if_pos h5])
                  (go_wp2_with fail; go_ret; exact ⟨by rw [HR.out]; rfl, (by repeat (first | (with_reducible exact Below.refl _ _) | (with_reducible refine Below.drew ?_) | (with_reducible refine below_drewN ?_ _) | ((with_reducible refine below_alloc ?_ ?_ _); · (first | exact Nat.le_refl _ | omega | (simp; done) | (simp; omega) | (simp at *; omega))) | ((with_reducible refine below_set ?_ ?_ _); · (first | exact Nat.le_refl _ | omega | (simp; done) | (simp; omega) | (simp at *; omega))) | ((with_reducible refine below_via (by with_reducible assumption) ?_ ?_); · (first | exact Nat.le_refl _ | omega | (simp; done) | (simp; omega) | (simp at *; omega)))))⟩)
                | true =>
                  have HR : Hid (st.check = 0) := Lib.hid (by unfold St.check; rw [if_neg HC.out, if_neg (by rw [H2.out]; decide), if_neg HN.out, if_neg (by rw [HU.out]; decide), if_neg (by rw [h5]; decide)])
                  (go_wp2_with fail; go_ret; exact ⟨by rw [HR.out]; rfl, (by repeat (first | (with_reducible exact Below.refl _ _) | (with_reducible refine Below.drew ?_) | (with_reducible refine below_drewN ?_ _) | ((with_reducible refine below_alloc ?_ ?_ _); · (first | exact Nat.le_refl _ | omega | (simp; done) | (simp; omega) | (simp at *; omega))) | ((with_reducible refine below_set ?_ ?_ _); · (first | exact Nat.le_refl _ | omega | (simp; done) | (simp; omega) | (simp at *; omega))) | ((with_reducible refine below_via (by with_reducible assumption) ?_ ?_); · (first | exact Nat.le_refl _ | omega | (simp; done) | (simp; omega) | (simp at *; omega)))))⟩)

/-- lot.Check -/
theorem check_any (st : St) (pA gA : Option Addr) (pc gc : Nat) (W : World) (hp : PkRow W W.heap.size pA st.n st.P) (hg : GdRow W W.heap.size gA st.m st.G) (hn : st.n ≤ 1000) (hm : st.m ≤ 1000) (hpc : st.n ≤ pc) (hgc : st.m ≤ gc) :
    Calls Tryz.prog 56 #[stV pA st.n pc gA st.m gc st.lots] W fun e W' => e = .returned (.int .i64 st.check) ∧ Below W.heap.size W W' := by
  by_cases hc : ¬ (1 ≤ st.n ∧ st.n ≤ 4) ∨ 4 < st.m
  · have e : st.check = 3 := by unfold St.check; rw [if_pos hc]
    rw [e]
    exact check_count st pA gA pc gc W hn hm hc
  · exact check_in st pA gA pc gc W hp hg (by omega) (by omega) (by omega) hpc hgc

theorem St.check_ok {st : St} : st.check = 0 ↔ st.ok := by
  unfold St.check
  constructor
  · intro h
    by_cases h1 : ¬ (1 ≤ st.n ∧ st.n ≤ 4) ∨ 4 < st.m
    · rw [if_pos h1] at h; cases h
    rw [if_neg h1] at h
    by_cases h2 : allN (fun k => pkRngB (st.P k)) st.n = false
    · rw [if_pos h2] at h; cases h
    rw [if_neg h2] at h
    by_cases h3 : allN (fun k => gdRngB (st.G k)) st.m = false ∨ inB st.lots 0 3 = false
    · rw [if_pos h3] at h; cases h
    rw [if_neg h3] at h
    by_cases h4 : allN (upB st) (st.m - 1) = false
    · rw [if_pos h4] at h; cases h
    rw [if_neg h4] at h
    by_cases h5 : allN (fun k => decide ((st.P k).f ≤ (st.P k).hi)) st.n = false
    · rw [if_pos h5] at h; cases h
    simp only [Bool.not_eq_false, not_or] at h2 h3 h4 h5
    have hl : 0 ≤ st.lots ∧ st.lots ≤ 3 := by simpa [inB] using h3.2
    exact ⟨by omega, by omega, by omega, fun k hk => pkRngB_iff.1 (allN_iff.1 h2 k hk), fun k hk => gdRngB_iff.1 (allN_iff.1 h3.1 k hk), hl.1, hl.2,
      fun k hk => by have := allN_iff.1 h4 k (by omega); simpa [upB] using this, fun k hk => by have := allN_iff.1 h5 k hk; simpa using this⟩
  · intro h
    rw [if_neg (by have := h.n1; have := h.n4; have := h.m4; omega), if_neg (by rw [allN_iff.2 (fun k hk => pkRngB_iff.2 (h.pk k hk))]; decide),
      if_neg (by rw [allN_iff.2 (fun k hk => gdRngB_iff.2 (h.gd k hk))]; simp [inB]; exact ⟨h.l0, h.l3⟩),
      if_neg (by rw [allN_iff.2 (fun k hk => by have := h.up k (by omega); simpa [upB] using this)]; decide),
      if_neg (by rw [allN_iff.2 (fun k hk => by simpa using h.sp k hk)]; decide)]
theorem St.check_bd (st : St) : 0 ≤ st.check ∧ st.check ≤ 7 := by
  unfold St.check
  (repeat' split) <;> omega

end Go.Proofs.YtmbkngfcbgbeiaaGreat
