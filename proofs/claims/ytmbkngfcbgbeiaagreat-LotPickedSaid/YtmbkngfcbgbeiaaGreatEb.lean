/- belt.Check of a right belt; belt.opened. -/
import Derived.Test.YtmbkngfcbgbeiaaGreatEa
import Derived.Test.YtmbkngfcbgbeiaaGreatB
import Derived.Test.YtmbkngfcbgbeiaaGreatWm
import Derived.Deep.QuietTactic
import Derived.BigQuiet
set_option linter.unusedSimpArgs false
set_option linter.unusedVariables false
namespace Go.Proofs.YtmbkngfcbgbeiaaGreat
open Go.RowKit Go.Shelf

def inR (n lo hi : Int) : Bool := decide (lo ≤ n) && decide (n ≤ hi)
/-- a right belt -/
structure BeltOk (nt nh : Nat) (T : Nat → Nat → Int) (G : Nat → HndA) : Prop where
  t1 : 1 ≤ nt
  t8 : nt ≤ 8
  h5 : nh ≤ 5
  t : ∀ k, rowOk 60 (T k)
  h : ∀ k, (G k).h.rng
  nr : ∀ k, k < nh → (G k).h.nr ≤ 1000
  r : ∀ k, k < nh → ∀ j, j < (G k).h.nr → 0 ≤ (G k).h.rs j ∧ (G k).h.rs j < (nt : Int)
  u : ∀ k, k < nh → ∀ j, j + 1 < (G k).h.nr → (G k).h.rs j < (G k).h.rs (j + 1)
/-- its rows in memory -/
structure BeltRow (w : World) (B : Nat) (tA : Option Addr) (nt : Nat) (T : Nat → Nat → Int) (hA : Option Addr) (nh : Nat) (G : Nat → HndA) : Prop where
  lt : B ≤ w.heap.size
  t : TrRow w B tA nt T
  h : HdRow w B hA nh G
  r : ∀ k, k < nh → IntRow w B (G k).a (G k).h.nr (G k).h.rs
theorem BeltRow.later {w w' : World} {B : Nat} {tA : Option Addr} {nt : Nat} {T : Nat → Nat → Int} {hA : Option Addr} {nh : Nat} {G : Nat → HndA} (h : BeltRow w B tA nt T hA nh G) (hb : Below B w w') : BeltRow w' B tA nt T hA nh G :=
  ⟨Nat.le_trans h.lt hb.size, h.t.below hb, h.h.below hb, fun k hk => (h.r k hk).below hb⟩
theorem BeltRow.up {w : World} {B : Nat} {tA : Option Addr} {nt : Nat} {T : Nat → Nat → Int} {hA : Option Addr} {nh : Nat} {G : Nat → HndA} (h : BeltRow w B tA nt T hA nh G) : BeltRow w w.heap.size tA nt T hA nh G :=
  ⟨Nat.le_refl _, h.t.mono h.lt, h.h.mono h.lt, fun k hk => (h.r k hk).mono h.lt⟩
abbrev beV (tA : Option Addr) (nt tc : Nat) (hA : Option Addr) (nh hc : Nat) : Value := .agg #[.slice tA nt tc, .slice hA nh hc]

set_option maxRecDepth 100000 in
set_option maxHeartbeats 1000000 in
theorem bin_any (n lo hi : Int) (W : World) : Calls Tryz.prog 90 #[.int .i64 n, .int .i64 lo, .int .i64 hi] W fun e W' => e = .returned (.bool (inR n lo hi)) ∧ W = W' := by
  cases h1 : decide (lo ≤ n) with
  | false =>
    have HR : Hid (inR n lo hi = false) := Lib.hid (by simp [inR, h1])
    go_enter Tryz.func90, Tryz.ntmps90
    go_wp2_with fail
    go_ret
    exact ⟨by rw [HR.out]; rfl, rfl⟩
  | true =>
    have HR : Hid (inR n lo hi = decide (n ≤ hi)) := Lib.hid (by simp [inR, h1])
    go_enter Tryz.func90, Tryz.ntmps90
    go_wp2_with fail
    go_ret
    exact ⟨by rw [HR.out]; rfl, rfl⟩
theorem bin_yes (n lo hi : Int) (h : lo ≤ n ∧ n ≤ hi) (W : World) : Calls Tryz.prog 90 #[.int .i64 n, .int .i64 lo, .int .i64 hi] W fun e W' => e = .returned (.bool true) ∧ W = W' :=
  (bin_any n lo hi W).mono (fun e w' h2 => by rw [show inR n lo hi = true by simp [inR]; exact h] at h2; exact h2)

set_option maxRecDepth 100000 in
set_option maxHeartbeats 1000000 in
theorem pieces1 (n : Int) (hn : 0 ≤ n ∧ n ≤ 60) (W : World) : Calls Tryz.prog 118 #[.int .i64 n] W fun e W' => e = .returned (.bool true) ∧ Below W.heap.size W W' := by
  go_enter Tryz.func118, Tryz.ntmps118
  go_wp2_with fail
  refine (bin_yes n 0 60 hn _).mono ?_
  rintro e w ⟨rfl, rfl⟩
  go_wp2_with fail
  go_ret
  exact ⟨rfl, (by repeat (first | (with_reducible exact Below.refl _ _) | (with_reducible refine Below.drew ?_) | (with_reducible refine below_drewN ?_ _) | ((with_reducible refine below_alloc ?_ ?_ _); · (first | exact Nat.le_refl _ | omega | (simp; done) | (simp; omega) | (simp at *; omega))) | ((with_reducible refine below_set ?_ ?_ _); · (first | exact Nat.le_refl _ | omega | (simp; done) | (simp; omega) | (simp at *; omega))) | ((with_reducible refine below_via (by with_reducible assumption) ?_ ?_); · (first | exact Nat.le_refl _ | omega | (simp; done) | (simp; omega) | (simp at *; omega)))))⟩
theorem allN_true (n : Nat) : allN (fun _ => true) n = true := allN_iff.2 (fun _ _ => rfl)

set_option maxRecDepth 100000 in
set_option maxHeartbeats 1000000 in
theorem pieces_any (T : Nat → Int) (hT : rowOk 60 T) (W : World) : Calls Tryz.prog 92 #[trV T] W fun e W' => e = .returned (.bool true) ∧ Below W.heap.size W W' := by
  have HT := Lib.hid hT
  clear hT
  go_enter Tryz.func92, Tryz.ntmps92
  go_wp2_with fail
  refine (ball_int (some ⟨W.heap.size, 0, none⟩) 5 5 T _ (fun k hk => ?_) (by omega) 118 (fun _ => true) (enters_of Tryz.func118 (by kernel_rfl) rfl) (fun k hk w _ => pieces1 (T k) (HT.out k hk) w)).mono ?_
  · have h5 : k = 0 ∨ k = 1 ∨ k = 2 ∨ k = 3 ∨ k = 4 := by omega
    rcases h5 with rfl | rfl | rfl | rfl | rfl <;> exact ⟨W.heap.size, 0, rfl, by simp, by simp⟩
  · rintro e w1 ⟨rfl, hb1⟩
    rw [allN_true]
    go_wp2_with fail
    go_ret
    exact ⟨rfl, (by repeat (first | (with_reducible exact Below.refl _ _) | (with_reducible refine Below.drew ?_) | (with_reducible refine below_drewN ?_ _) | ((with_reducible refine below_alloc ?_ ?_ _); · (first | exact Nat.le_refl _ | omega | (simp; done) | (simp; omega) | (simp at *; omega))) | ((with_reducible refine below_set ?_ ?_ _); · (first | exact Nat.le_refl _ | omega | (simp; done) | (simp; omega) | (simp at *; omega))) | ((with_reducible refine below_via (by with_reducible assumption) ?_ ?_); · (first | exact Nat.le_refl _ | omega | (simp; done) | (simp; omega) | (simp at *; omega)))))⟩

set_option maxRecDepth 100000 in
set_option maxHeartbeats 1000000 in
theorem bcheck1 (x : HndA) (hx : x.h.rng) (W : World) : Calls Tryz.prog 94 #[hdV x] W fun e W' => e = .returned (.bool true) ∧ Below W.heap.size W W' := by
  obtain ⟨h1, h2, h3⟩ := hx
  go_enter Tryz.func94, Tryz.ntmps94
  go_wp2_with (go_at_call 90; refine (bin_yes _ _ _ (by omega) _).mono ?_; rintro e w' ⟨rfl, rfl⟩)
  go_ret
  exact ⟨rfl, (by repeat (first | (with_reducible exact Below.refl _ _) | (with_reducible refine Below.drew ?_) | (with_reducible refine below_drewN ?_ _) | ((with_reducible refine below_alloc ?_ ?_ _); · (first | exact Nat.le_refl _ | omega | (simp; done) | (simp; omega) | (simp at *; omega))) | ((with_reducible refine below_set ?_ ?_ _); · (first | exact Nat.le_refl _ | omega | (simp; done) | (simp; omega) | (simp at *; omega))) | ((with_reducible refine below_via (by with_reducible assumption) ?_ ?_); · (first | exact Nat.le_refl _ | omega | (simp; done) | (simp; omega) | (simp at *; omega)))))⟩

set_option maxRecDepth 100000 in
set_option maxHeartbeats 1000000 in
theorem rises_any (A : Option Addr) (n c : Nat) (X : Nat → Int) (W : World) (hl : IntRow W W.heap.size A n X) (hn : n ≤ 1000) (hu : ∀ j, j + 1 < n → X j < X (j + 1)) : Calls Tryz.prog 99 #[.slice A n c] W fun e W' => e = .returned (.bool true) ∧ Below W.heap.size W W' := by
  have HL := Lib.hid hl
  have HU := Lib.hid hu
  clear hl hu
  go_enter Tryz.func99, Tryz.ntmps99
  go_wp2_with fail
  go_loopw [3] (fun i wr => ∃ k : Nat, (k ≤ n ∨ k = 1) ∧ 1 ≤ k ∧ i = .int .i64 k ∧ Hid (Below W.heap.size W wr)) (fun i _ => n + 1 - (intOf i).toNat)
  case atStart => exact ⟨1, .inr rfl, Nat.le_refl _, rfl, Lib.hid (Below.refl _ _)⟩
  case round =>
    obtain ⟨k, hk, hk1, rfl, HB⟩ := hrel
    by_cases hlt : k < n
    · have hkn : (k : Int) < (n : Int) := by omega
      have hk0 : (0 : Int) ≤ (k : Int) := by omega
      obtain ⟨b, o, rfl, hbl, c0⟩ := (HL.out.below HB.out) k hlt
      obtain ⟨b2, o2, hA, _, c1⟩ := (HL.out.below HB.out) (k - 1) (by omega)
      obtain ⟨rfl, rfl⟩ : b = b2 ∧ o = o2 := by simpa using hA
      have hu := HU.out (k - 1) (by omega)
      rw [show k - 1 + 1 = k by omega] at hu
      have hno : ¬ X k ≤ X (k - 1) := by omega
      have e1 : IntKind.i64.wrap ((k : Int) - 1) = ((k - 1 : Nat) : Int) := by rw [show (((k - 1 : Nat) : Int)) = (k : Int) - 1 by omega]; exact IntWalk.i64_in _ (by omega)
      have e2 : (((k - 1 : Nat) : Int)) < (n : Int) := by omega
      have e3 : (0 : Int) ≤ (((k - 1 : Nat) : Int)) := by omega
      have ek : IntKind.i64.wrap ((k : Int) + 1) = (k : Int) + 1 := IntWalk.i64_in _ (by omega)
      clear hA hu
      go_upto_region 4 with fail
      refine region_qbw (by kernel_rfl) (by kernel_rfl) ?_
      have x0 := cell_regrown c0
      have x1 := cell_regrown c1
      clear c0 c1
      repeat (first | go_big_quiet_step (fail) | quiet_step (fail))
      refine wpQuiet_nil ?_; intro wq hbq
      clear x0 x1 e1 e2 e3
      have HB2 := Lib.hid (HB.out.trans (hbq.mono HB.out.size))
      clear hbq
      go_wp2_with fail
      go_roundw
      case rel => exact ⟨k + 1, .inl (by omega), by omega, by go_num, HB2⟩
      case measure => simp [intOf]; omega
    · have hge : ¬ (k : Int) < (n : Int) := by omega
      go_wp2_with fail
      go_ret
      exact ⟨rfl, HB.out⟩

set_option maxRecDepth 100000 in
set_option maxHeartbeats 1000000 in
theorem bcheck3 (x : HndA) (W : World) (hl : IntRow W W.heap.size x.a x.h.nr x.h.rs) (hn : x.h.nr ≤ 1000) (hu : ∀ j, j + 1 < x.h.nr → x.h.rs j < x.h.rs (j + 1)) : Calls Tryz.prog 98 #[hdV x] W fun e W' => e = .returned (.bool true) ∧ Below W.heap.size W W' := by
  have HL := Lib.hid hl
  have HU := Lib.hid hu
  clear hl hu
  go_enter Tryz.func98, Tryz.ntmps98
  go_wp2_with fail
  refine (rises_any x.a x.h.nr x.c x.h.rs _ (HL.out.below (by repeat (first | (with_reducible exact Below.refl _ _) | (with_reducible refine Below.drew ?_) | (with_reducible refine below_drewN ?_ _) | ((with_reducible refine below_alloc ?_ ?_ _); · (first | exact Nat.le_refl _ | omega | (simp; done) | (simp; omega) | (simp at *; omega))) | ((with_reducible refine below_set ?_ ?_ _); · (first | exact Nat.le_refl _ | omega | (simp; done) | (simp; omega) | (simp at *; omega))) | ((with_reducible refine below_via (by with_reducible assumption) ?_ ?_); · (first | exact Nat.le_refl _ | omega | (simp; done) | (simp; omega) | (simp at *; omega))))) |>.mono (by simp)) hn HU.out).mono ?_
  rintro e w1 ⟨rfl, hb1⟩
  go_wp2_with fail
  go_ret
  exact ⟨rfl, (by repeat (first | (with_reducible exact Below.refl _ _) | (with_reducible refine Below.drew ?_) | (with_reducible refine below_drewN ?_ _) | ((with_reducible refine below_alloc ?_ ?_ _); · (first | exact Nat.le_refl _ | omega | (simp; done) | (simp; omega) | (simp at *; omega))) | ((with_reducible refine below_set ?_ ?_ _); · (first | exact Nat.le_refl _ | omega | (simp; done) | (simp; omega) | (simp at *; omega))) | ((with_reducible refine below_via (by with_reducible assumption) ?_ ?_); · (first | exact Nat.le_refl _ | omega | (simp; done) | (simp; omega) | (simp at *; omega)))))⟩

set_option maxRecDepth 100000 in
set_option maxHeartbeats 1000000 in
theorem bcheck21 (t : Int) (nt tc xb : Nat) (tA : Option Addr) (W : World) (hc : W.cell? ⟨xb, 0, none⟩ = some (.slice tA nt tc)) (hnt : nt ≤ 8) (ht : 0 ≤ t ∧ t < (nt : Int)) : Calls Tryz.prog 97 #[.int .i64 t, .pointer (some ⟨xb, 0, none⟩)] W fun e W' => e = .returned (.bool true) ∧ Below W.heap.size W W' := by
  have e1 : IntKind.i64.wrap ((nt : Int) - 1) = (nt : Int) - 1 := IntWalk.i64_in _ (by omega)
  go_enter Tryz.func97, Tryz.ntmps97
  go_wp2_with (go_at_call 90; refine (bin_yes _ _ _ (by omega) _).mono ?_; rintro e w' ⟨rfl, rfl⟩)
  go_ret
  exact ⟨rfl, (by repeat (first | (with_reducible exact Below.refl _ _) | (with_reducible refine Below.drew ?_) | (with_reducible refine below_drewN ?_ _) | ((with_reducible refine below_alloc ?_ ?_ _); · (first | exact Nat.le_refl _ | omega | (simp; done) | (simp; omega) | (simp at *; omega))) | ((with_reducible refine below_set ?_ ?_ _); · (first | exact Nat.le_refl _ | omega | (simp; done) | (simp; omega) | (simp at *; omega))) | ((with_reducible refine below_via (by with_reducible assumption) ?_ ?_); · (first | exact Nat.le_refl _ | omega | (simp; done) | (simp; omega) | (simp at *; omega)))))⟩

set_option maxRecDepth 100000 in
set_option maxHeartbeats 1000000 in
theorem bcheck2 (x : HndA) (nt tc xb : Nat) (tA : Option Addr) (W : World) (hc : W.cell? ⟨xb, 0, none⟩ = some (.slice tA nt tc)) (hnt : nt ≤ 8) (hl : IntRow W W.heap.size x.a x.h.nr x.h.rs) (hn : x.h.nr ≤ 1000) (hr : ∀ j, j < x.h.nr → 0 ≤ x.h.rs j ∧ x.h.rs j < (nt : Int)) :
    Calls Tryz.prog 95 #[hdV x, .pointer (some ⟨xb, 0, none⟩)] W fun e W' => e = .returned (.bool true) ∧ Below W.heap.size W W' := by
  have HL := Lib.hid hl
  have HR := Lib.hid hr
  have HC := Lib.hid hc
  have hxl := World.block_lt_of_cell? W _ hc
  dsimp only at hxl
  clear hl hr hc
  go_enter Tryz.func95, Tryz.ntmps95
  go_wp2_with fail
  have hba : Below W.heap.size W (W.alloc (.cells #[.bool (x.h.tk 0), .bool (x.h.tk 1), .bool (x.h.tk 2), .bool (x.h.tk 3), .bool (x.h.tk 4), .int .i64 x.h.st, .int .i64 x.h.ti, .int .i64 x.h.sl, .slice x.a x.h.nr x.c] 40)) := (by repeat (first | (with_reducible exact Below.refl _ _) | (with_reducible refine Below.drew ?_) | (with_reducible refine below_drewN ?_ _) | ((with_reducible refine below_alloc ?_ ?_ _); · (first | exact Nat.le_refl _ | omega | (simp; done) | (simp; omega) | (simp at *; omega))) | ((with_reducible refine below_set ?_ ?_ _); · (first | exact Nat.le_refl _ | omega | (simp; done) | (simp; omega) | (simp at *; omega))) | ((with_reducible refine below_via (by with_reducible assumption) ?_ ?_); · (first | exact Nat.le_refl _ | omega | (simp; done) | (simp; omega) | (simp at *; omega)))))
  refine (ball_intC x.a x.h.nr x.c x.h.rs _ (HL.out.below hba |>.mono (by simp)) hn 97 xb (fun _ => true) (enters_of Tryz.func97 (by kernel_rfl) rfl) (fun k hk w hb => bcheck21 (x.h.rs k) nt tc xb tA w ((hb.cell (p := ⟨xb, 0, none⟩) (by simp; omega)).trans ((hba.cell (p := ⟨xb, 0, none⟩) hxl).trans HC.out)) hnt (HR.out k hk))).mono ?_
  rintro e w1 ⟨rfl, hb1⟩
  rw [allN_true]
  go_wp2_with fail
  go_ret
  exact ⟨rfl, (by repeat (first | (with_reducible exact Below.refl _ _) | (with_reducible refine Below.drew ?_) | (with_reducible refine below_drewN ?_ _) | ((with_reducible refine below_alloc ?_ ?_ _); · (first | exact Nat.le_refl _ | omega | (simp; done) | (simp; omega) | (simp at *; omega))) | ((with_reducible refine below_set ?_ ?_ _); · (first | exact Nat.le_refl _ | omega | (simp; done) | (simp; omega) | (simp at *; omega))) | ((with_reducible refine below_via (by with_reducible assumption) ?_ ?_); · (first | exact Nat.le_refl _ | omega | (simp; done) | (simp; omega) | (simp at *; omega)))))⟩
end Go.Proofs.YtmbkngfcbgbeiaaGreat
