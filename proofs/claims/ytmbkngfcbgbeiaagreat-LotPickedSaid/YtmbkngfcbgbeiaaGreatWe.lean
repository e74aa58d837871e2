/- slices.IndexFunc, slices.ContainsFunc and lot.every at pickings, grades and numbers. (Written by gen_every.py.) -/
import Derived.Test.YtmbkngfcbgbeiaaGreatWd
set_option linter.unusedSimpArgs false
set_option linter.unusedVariables false
namespace Go.Proofs.YtmbkngfcbgbeiaaGreat
open Go.RowKit Go.Shelf

/-- something is so of the first n -/
def allN (f : Nat → Bool) : Nat → Bool
  | 0 => true
  | n + 1 => allN f n && f n
theorem allN_iff {f : Nat → Bool} : ∀ {n : Nat}, allN f n = true ↔ ∀ k, k < n → f k = true
  | 0 => by simp [allN]
  | n + 1 => by
    simp only [allN, Bool.and_eq_true, allN_iff (n := n)]
    constructor
    · intro h k hk
      rcases Nat.lt_or_ge k n with h1 | h1
      · exact h.1 k h1
      · have : k = n := by omega
        subst this; exact h.2
    · intro h; exact ⟨fun k hk => h k (by omega), h n (by omega)⟩
/-- the first index from i on, of r, at which something is so; -1 if there is none -/
def idxFrom (f : Nat → Bool) : Nat → Nat → Int
  | 0, _ => -1
  | r + 1, i => if f i then (i : Int) else idxFrom f r (i + 1)
theorem idx_yes {f : Nat → Bool} {n k : Nat} (hk : k < n) (h0 : idxFrom f n 0 = idxFrom f (n - k) k) (h : f k = true) : idxFrom f n 0 = (k : Int) := by
  rw [h0, show n - k = (n - k - 1) + 1 from by omega, idxFrom, if_pos h]
theorem idx_no {f : Nat → Bool} {n k : Nat} (hk : k < n) (h0 : idxFrom f n 0 = idxFrom f (n - k) k) (h : f k = false) : idxFrom f n 0 = idxFrom f (n - (k + 1)) (k + 1) := by
  rw [h0, show n - k = (n - (k + 1)) + 1 from by omega, idxFrom, if_neg (by simp [h])]
theorem idx_end {f : Nat → Bool} {n : Nat} (h0 : idxFrom f n 0 = idxFrom f (n - n) n) : idxFrom f n 0 = -1 := by rw [h0, Nat.sub_self]; rfl
theorem idx_bd (f : Nat → Bool) : ∀ r i, -1 ≤ idxFrom f r i
  | 0, _ => by simp [idxFrom]
  | r + 1, i => by unfold idxFrom; split; omega; exact idx_bd f r (i + 1)
theorem idx_all (f : Nat → Bool) : ∀ r i, (decide (0 ≤ idxFrom f r i) = false) ↔ ∀ k, k < r → f (i + k) = false
  | 0, i => by simp [idxFrom]
  | r + 1, i => by
    unfold idxFrom
    split
    · rename_i h
      constructor
      · intro h1; simp at h1
      · intro h1; have := h1 0 (by omega); simp at this; rw [this] at h; cases h
    · rename_i h
      rw [idx_all f r (i + 1)]
      constructor
      · intro h1 k hk
        cases k with
        | zero => simpa using h
        | succ k => have := h1 k (by omega); rwa [show i + 1 + k = i + (k + 1) from by omega] at this
      · intro h1 k hk
        have := h1 (k + 1) (by omega)
        rwa [show i + (k + 1) = i + 1 + k from by omega] at this
theorem idx_every (f : Nat → Bool) (n : Nat) : (!decide (0 ≤ idxFrom (fun k => !f k) n 0)) = allN f n := by
  cases h : decide (0 ≤ idxFrom (fun k => !f k) n 0) with
  | false =>
    have h1 := (idx_all (fun k => !f k) n 0).1 h
    symm
    exact allN_iff.2 (fun k hk => by have := h1 k hk; simpa using this)
  | true =>
    cases h2 : allN f n with
    | false => rfl
    | true =>
      have h3 := (idx_all (fun k => !f k) n 0).2 (fun k hk => by have := allN_iff.1 h2 k hk; simp [this])
      rw [h] at h3; cases h3

/-- a row of numbers in memory, below block B -/
def IntRow (w : World) (B : Nat) (A : Option Addr) (n : Nat) (X : Nat → Int) : Prop :=
  ∀ k, k < n → ∃ b o, A = some ⟨b, o, none⟩ ∧ b < B ∧ w.cell? ⟨b, o + k, none⟩ = some (.int .i64 (X k))
theorem IntRow.below {w w' : World} {B : Nat} {A : Option Addr} {n : Nat} {P : Nat → Int} (h : IntRow w B A n P) (hb : Below B w w') : IntRow w' B A n P := fun k hk => by
  obtain ⟨b, o, hA, hB, c0⟩ := h k hk
  exact ⟨b, o, hA, hB, (hb.cell (p := ⟨b, _, none⟩) hB).trans c0⟩
theorem IntRow.mono {w : World} {B B' : Nat} {A : Option Addr} {n : Nat} {P : Nat → Int} (h : IntRow w B A n P) (hb : B ≤ B') : IntRow w B' A n P := fun k hk => by
  obtain ⟨b, o, hA, hB, c⟩ := h k hk
  exact ⟨b, o, hA, Nat.lt_of_lt_of_le hB hb, c⟩

set_option maxRecDepth 100000 in
set_option maxHeartbeats 1000000 in
theorem idx_pk (A : Option Addr) (n c : Nat) (P : Nat → Pk) (W : World) (hr : PkRow W W.heap.size A n P) (hn : n ≤ 1000) (h cb : Nat) (f : Nat → Bool)
    (hcf : ∀ args w, (callFunc h args).run Tryz.prog w = .ok (.enter h args) w)
    (hf : ∀ k, k < n → ∀ w, Below W.heap.size W w → Calls Tryz.prog h #[pkV (P k).s (P k).w (P k).o (P k).f, .pointer (some ⟨cb, 0, none⟩)] w fun e w' => e = .returned (.bool (f k)) ∧ Below w.heap.size w w') :
    Calls Tryz.prog 136 #[.slice A n c, .func (.func h) #[] #[.pointer (some ⟨cb, 0, none⟩)]] W fun e w' => e = .returned (.int .i64 (idxFrom f n 0)) ∧ Below W.heap.size W w' := by
  have HR := Lib.hid hr
  have HF := Lib.hid hf
  clear hr hf
  go_enter Tryz.func136, Tryz.ntmps136
  go_wp2_with fail
  go_loopw [8] (fun i wr => ∃ k : Nat, k ≤ n ∧ i = .int .i64 k ∧ Hid (idxFrom f n 0 = idxFrom f (n - k) k) ∧ Below W.heap.size W wr) (fun i _ => n - (intOf i).toNat)
  case atStart => exact ⟨0, Nat.zero_le _, rfl, Lib.hid rfl, Below.refl _ _⟩
  case round =>
    obtain ⟨k, hk, rfl, h0, hbw⟩ := hrel
    have HBW := Lib.hid hbw
    clear hbw
    by_cases hlt : k < n
    · obtain ⟨b, o, rfl, hb', c0, c1, c2, c3⟩ := HR.out.below HBW.out k hlt
      have hcall := Lib.hid (HF.out k hlt wr HBW.out)
      go_wp2_with fail
      refine hcall.out.mono ?_
      rintro e w1 ⟨rfl, hb1⟩
      have hsz := HBW.out.size
      by_cases hh : f k = true
      · have HH := Lib.hid hh
        have hy := HBW.out
        go_wp2_with fail
        go_ret
        exact ⟨by rw [idx_yes hlt h0.out HH.out]; rfl, (by repeat (first | (with_reducible exact Below.refl _ _) | (with_reducible refine Below.drew ?_) | (with_reducible refine below_drewN ?_ _) | ((with_reducible refine below_alloc ?_ ?_ _); · (first | exact Nat.le_refl _ | omega | (simp; done) | (simp; omega) | (simp at *; omega))) | ((with_reducible refine below_set ?_ ?_ _); · (first | exact Nat.le_refl _ | omega | (simp; done) | (simp; omega) | (simp at *; omega))) | ((with_reducible refine below_via (by with_reducible assumption) ?_ ?_); · (first | exact Nat.le_refl _ | omega | (simp; done) | (simp; omega) | (simp at *; omega)))))⟩
      · simp only [Bool.not_eq_true] at hh
        have HH := Lib.hid hh
        have hall : Hid (Below W.heap.size W w1) := Lib.hid (by have hy := HBW.out; exact (by repeat (first | (with_reducible exact Below.refl _ _) | (with_reducible refine Below.drew ?_) | (with_reducible refine below_drewN ?_ _) | ((with_reducible refine below_alloc ?_ ?_ _); · (first | exact Nat.le_refl _ | omega | (simp; done) | (simp; omega) | (simp at *; omega))) | ((with_reducible refine below_set ?_ ?_ _); · (first | exact Nat.le_refl _ | omega | (simp; done) | (simp; omega) | (simp at *; omega))) | ((with_reducible refine below_via (by with_reducible assumption) ?_ ?_); · (first | exact Nat.le_refl _ | omega | (simp; done) | (simp; omega) | (simp at *; omega))))))
        go_wp2_with fail
        go_roundw
        case rel => exact ⟨k + 1, by omega, by go_num, Lib.hid (idx_no hlt h0.out HH.out), hall.out⟩
        case measure => simp [intOf]; omega
    · have hk' : k = n := by omega
      go_wp2_with fail
      go_ret
      exact ⟨by rw [idx_end (by have h := h0.out; rwa [hk'] at h)]; rfl, HBW.out⟩

set_option maxRecDepth 100000 in
set_option maxHeartbeats 1000000 in
theorem has_pk (A : Option Addr) (n c : Nat) (P : Nat → Pk) (W : World) (hr : PkRow W W.heap.size A n P) (hn : n ≤ 1000) (h cb : Nat) (f : Nat → Bool)
    (hcf : ∀ args w, (callFunc h args).run Tryz.prog w = .ok (.enter h args) w)
    (hf : ∀ k, k < n → ∀ w, Below W.heap.size W w → Calls Tryz.prog h #[pkV (P k).s (P k).w (P k).o (P k).f, .pointer (some ⟨cb, 0, none⟩)] w fun e w' => e = .returned (.bool (f k)) ∧ Below w.heap.size w w') :
    Calls Tryz.prog 112 #[.slice A n c, .func (.func h) #[] #[.pointer (some ⟨cb, 0, none⟩)]] W fun e w' => e = .returned (.bool (decide (0 ≤ idxFrom f n 0))) ∧ Below W.heap.size W w' := by
  have H := Lib.hid (idx_pk A n c P W hr hn h cb f hcf hf)
  clear hr hf hcf
  go_enter Tryz.func112, Tryz.ntmps112
  go_wp2_with fail
  refine H.out.mono ?_
  rintro e w1 ⟨rfl, hb1⟩
  go_wp2_with fail
  go_ret
  exact ⟨rfl, hb1⟩

set_option maxRecDepth 100000 in
set_option maxHeartbeats 1000000 in
/-- the closure of lot.every -/
theorem not_pk (g cb : Nat) (p : Pk) (f : Bool) (w : World) (hc : w.cell? ⟨cb, 0, none⟩ = some (.func (.func g) #[] #[])) (hcf : ∀ args w, (callFunc g args).run Tryz.prog w = .ok (.enter g args) w)
    (hg : ∀ w, Calls Tryz.prog g #[pkV p.s p.w p.o p.f] w fun e w' => e = .returned (.bool f) ∧ Below w.heap.size w w') :
    Calls Tryz.prog 113 #[pkV p.s p.w p.o p.f, .pointer (some ⟨cb, 0, none⟩)] w fun e w' => e = .returned (.bool (!f)) ∧ Below w.heap.size w w' := by
  have HG := Lib.hid hg
  have hl : cb < w.heap.size := World.block_lt_of_cell? w _ hc
  clear hg
  go_enter Tryz.func113, Tryz.ntmps113
  go_wp2_with fail
  refine (HG.out _).mono ?_
  rintro e w1 ⟨rfl, hb1⟩
  go_wp2_with fail
  go_ret
  exact ⟨rfl, (by repeat (first | (with_reducible exact Below.refl _ _) | (with_reducible refine Below.drew ?_) | (with_reducible refine below_drewN ?_ _) | ((with_reducible refine below_alloc ?_ ?_ _); · (first | exact Nat.le_refl _ | omega | (simp; done) | (simp; omega) | (simp at *; omega))) | ((with_reducible refine below_set ?_ ?_ _); · (first | exact Nat.le_refl _ | omega | (simp; done) | (simp; omega) | (simp at *; omega))) | ((with_reducible refine below_via (by with_reducible assumption) ?_ ?_); · (first | exact Nat.le_refl _ | omega | (simp; done) | (simp; omega) | (simp at *; omega)))))⟩

set_option maxRecDepth 100000 in
set_option maxHeartbeats 1000000 in
/-- lot.every -/
theorem every_pk (A : Option Addr) (n c : Nat) (P : Nat → Pk) (W : World) (hr : PkRow W W.heap.size A n P) (hn : n ≤ 1000) (g : Nat) (f : Nat → Bool)
    (hcf : ∀ args w, (callFunc g args).run Tryz.prog w = .ok (.enter g args) w)
    (hg : ∀ k, k < n → ∀ w, Calls Tryz.prog g #[pkV (P k).s (P k).w (P k).o (P k).f] w fun e w' => e = .returned (.bool (f k)) ∧ Below w.heap.size w w') :
    Calls Tryz.prog 83 #[.slice A n c, .func (.func g) #[] #[]] W fun e w' => e = .returned (.bool (allN f n)) ∧ Below W.heap.size W w' := by
  have hb0 : Below W.heap.size W (W.alloc (.cells #[.func (.func g) #[] #[]] 176)) := (Below.refl _ _).alloc (Nat.le_refl _) _
  have H := Lib.hid (has_pk A n c P (W.alloc (.cells #[.func (.func g) #[] #[]] 176)) ((hr.below hb0).mono (by simp)) hn 113 W.heap.size (fun k => !f k) (enters_of Tryz.func113 (by kernel_rfl) rfl)
    (fun k hk w hb => not_pk g W.heap.size (P k) (f k) w ((hb.cell (p := ⟨W.heap.size, 0, none⟩) (by simp)).trans (by simp)) hcf (hg k hk)))
  have HE := Lib.hid (idx_every f n)
  clear hr hg hcf hb0
  go_enter Tryz.func83, Tryz.ntmps83
  go_wp2_with fail
  refine H.out.mono ?_
  rintro e w1 ⟨rfl, hb1⟩
  go_wp2_with fail
  go_ret
  exact ⟨by rw [← HE.out]; rfl, (by repeat (first | (with_reducible exact Below.refl _ _) | (with_reducible refine Below.drew ?_) | (with_reducible refine below_drewN ?_ _) | ((with_reducible refine below_alloc ?_ ?_ _); · (first | exact Nat.le_refl _ | omega | (simp; done) | (simp; omega) | (simp at *; omega))) | ((with_reducible refine below_set ?_ ?_ _); · (first | exact Nat.le_refl _ | omega | (simp; done) | (simp; omega) | (simp at *; omega))) | ((with_reducible refine below_via (by with_reducible assumption) ?_ ?_); · (first | exact Nat.le_refl _ | omega | (simp; done) | (simp; omega) | (simp at *; omega)))))⟩

set_option maxRecDepth 100000 in
set_option maxHeartbeats 1000000 in
theorem idx_gd (A : Option Addr) (n c : Nat) (P : Nat → Gd) (W : World) (hr : GdRow W W.heap.size A n P) (hn : n ≤ 1000) (h cb : Nat) (f : Nat → Bool)
    (hcf : ∀ args w, (callFunc h args).run Tryz.prog w = .ok (.enter h args) w)
    (hf : ∀ k, k < n → ∀ w, Below W.heap.size W w → Calls Tryz.prog h #[gdV (P k), .pointer (some ⟨cb, 0, none⟩)] w fun e w' => e = .returned (.bool (f k)) ∧ Below w.heap.size w w') :
    Calls Tryz.prog 137 #[.slice A n c, .func (.func h) #[] #[.pointer (some ⟨cb, 0, none⟩)]] W fun e w' => e = .returned (.int .i64 (idxFrom f n 0)) ∧ Below W.heap.size W w' := by
  have HR := Lib.hid hr
  have HF := Lib.hid hf
  clear hr hf
  go_enter Tryz.func137, Tryz.ntmps137
  go_wp2_with fail
  go_loopw [8] (fun i wr => ∃ k : Nat, k ≤ n ∧ i = .int .i64 k ∧ Hid (idxFrom f n 0 = idxFrom f (n - k) k) ∧ Below W.heap.size W wr) (fun i _ => n - (intOf i).toNat)
  case atStart => exact ⟨0, Nat.zero_le _, rfl, Lib.hid rfl, Below.refl _ _⟩
  case round =>
    obtain ⟨k, hk, rfl, h0, hbw⟩ := hrel
    have HBW := Lib.hid hbw
    clear hbw
    by_cases hlt : k < n
    · obtain ⟨b, o, rfl, hb', c0, c1⟩ := HR.out.below HBW.out k hlt
      have hcall := Lib.hid (HF.out k hlt wr HBW.out)
      go_wp2_with fail
      refine hcall.out.mono ?_
      rintro e w1 ⟨rfl, hb1⟩
      have hsz := HBW.out.size
      by_cases hh : f k = true
      · have HH := Lib.hid hh
        have hy := HBW.out
        go_wp2_with fail
        go_ret
        exact ⟨by rw [idx_yes hlt h0.out HH.out]; rfl, (by repeat (first | (with_reducible exact Below.refl _ _) | (with_reducible refine Below.drew ?_) | (with_reducible refine below_drewN ?_ _) | ((with_reducible refine below_alloc ?_ ?_ _); · (first | exact Nat.le_refl _ | omega | (simp; done) | (simp; omega) | (simp at *; omega))) | ((with_reducible refine below_set ?_ ?_ _); · (first | exact Nat.le_refl _ | omega | (simp; done) | (simp; omega) | (simp at *; omega))) | ((with_reducible refine below_via (by with_reducible assumption) ?_ ?_); · (first | exact Nat.le_refl _ | omega | (simp; done) | (simp; omega) | (simp at *; omega)))))⟩
      · simp only [Bool.not_eq_true] at hh
        have HH := Lib.hid hh
        have hall : Hid (Below W.heap.size W w1) := Lib.hid (by have hy := HBW.out; exact (by repeat (first | (with_reducible exact Below.refl _ _) | (with_reducible refine Below.drew ?_) | (with_reducible refine below_drewN ?_ _) | ((with_reducible refine below_alloc ?_ ?_ _); · (first | exact Nat.le_refl _ | omega | (simp; done) | (simp; omega) | (simp at *; omega))) | ((with_reducible refine below_set ?_ ?_ _); · (first | exact Nat.le_refl _ | omega | (simp; done) | (simp; omega) | (simp at *; omega))) | ((with_reducible refine below_via (by with_reducible assumption) ?_ ?_); · (first | exact Nat.le_refl _ | omega | (simp; done) | (simp; omega) | (simp at *; omega))))))
        go_wp2_with fail
        go_roundw
        case rel => exact ⟨k + 1, by omega, by go_num, Lib.hid (idx_no hlt h0.out HH.out), hall.out⟩
        case measure => simp [intOf]; omega
    · have hk' : k = n := by omega
      go_wp2_with fail
      go_ret
      exact ⟨by rw [idx_end (by have h := h0.out; rwa [hk'] at h)]; rfl, HBW.out⟩

set_option maxRecDepth 100000 in
set_option maxHeartbeats 1000000 in
theorem has_gd (A : Option Addr) (n c : Nat) (P : Nat → Gd) (W : World) (hr : GdRow W W.heap.size A n P) (hn : n ≤ 1000) (h cb : Nat) (f : Nat → Bool)
    (hcf : ∀ args w, (callFunc h args).run Tryz.prog w = .ok (.enter h args) w)
    (hf : ∀ k, k < n → ∀ w, Below W.heap.size W w → Calls Tryz.prog h #[gdV (P k), .pointer (some ⟨cb, 0, none⟩)] w fun e w' => e = .returned (.bool (f k)) ∧ Below w.heap.size w w') :
    Calls Tryz.prog 114 #[.slice A n c, .func (.func h) #[] #[.pointer (some ⟨cb, 0, none⟩)]] W fun e w' => e = .returned (.bool (decide (0 ≤ idxFrom f n 0))) ∧ Below W.heap.size W w' := by
  have H := Lib.hid (idx_gd A n c P W hr hn h cb f hcf hf)
  clear hr hf hcf
  go_enter Tryz.func114, Tryz.ntmps114
  go_wp2_with fail
  refine H.out.mono ?_
  rintro e w1 ⟨rfl, hb1⟩
  go_wp2_with fail
  go_ret
  exact ⟨rfl, hb1⟩

set_option maxRecDepth 100000 in
set_option maxHeartbeats 1000000 in
/-- the closure of lot.every -/
theorem not_gd (g cb : Nat) (p : Gd) (f : Bool) (w : World) (hc : w.cell? ⟨cb, 0, none⟩ = some (.func (.func g) #[] #[])) (hcf : ∀ args w, (callFunc g args).run Tryz.prog w = .ok (.enter g args) w)
    (hg : ∀ w, Calls Tryz.prog g #[gdV p] w fun e w' => e = .returned (.bool f) ∧ Below w.heap.size w w') :
    Calls Tryz.prog 115 #[gdV p, .pointer (some ⟨cb, 0, none⟩)] w fun e w' => e = .returned (.bool (!f)) ∧ Below w.heap.size w w' := by
  have HG := Lib.hid hg
  have hl : cb < w.heap.size := World.block_lt_of_cell? w _ hc
  clear hg
  go_enter Tryz.func115, Tryz.ntmps115
  go_wp2_with fail
  refine (HG.out _).mono ?_
  rintro e w1 ⟨rfl, hb1⟩
  go_wp2_with fail
  go_ret
  exact ⟨rfl, (by repeat (first | (with_reducible exact Below.refl _ _) | (with_reducible refine Below.drew ?_) | (with_reducible refine below_drewN ?_ _) | ((with_reducible refine below_alloc ?_ ?_ _); · (first | exact Nat.le_refl _ | omega | (simp; done) | (simp; omega) | (simp at *; omega))) | ((with_reducible refine below_set ?_ ?_ _); · (first | exact Nat.le_refl _ | omega | (simp; done) | (simp; omega) | (simp at *; omega))) | ((with_reducible refine below_via (by with_reducible assumption) ?_ ?_); · (first | exact Nat.le_refl _ | omega | (simp; done) | (simp; omega) | (simp at *; omega)))))⟩

set_option maxRecDepth 100000 in
set_option maxHeartbeats 1000000 in
/-- lot.every -/
theorem every_gd (A : Option Addr) (n c : Nat) (P : Nat → Gd) (W : World) (hr : GdRow W W.heap.size A n P) (hn : n ≤ 1000) (g : Nat) (f : Nat → Bool)
    (hcf : ∀ args w, (callFunc g args).run Tryz.prog w = .ok (.enter g args) w)
    (hg : ∀ k, k < n → ∀ w, Calls Tryz.prog g #[gdV (P k)] w fun e w' => e = .returned (.bool (f k)) ∧ Below w.heap.size w w') :
    Calls Tryz.prog 85 #[.slice A n c, .func (.func g) #[] #[]] W fun e w' => e = .returned (.bool (allN f n)) ∧ Below W.heap.size W w' := by
  have hb0 : Below W.heap.size W (W.alloc (.cells #[.func (.func g) #[] #[]] 178)) := (Below.refl _ _).alloc (Nat.le_refl _) _
  have H := Lib.hid (has_gd A n c P (W.alloc (.cells #[.func (.func g) #[] #[]] 178)) ((hr.below hb0).mono (by simp)) hn 115 W.heap.size (fun k => !f k) (enters_of Tryz.func115 (by kernel_rfl) rfl)
    (fun k hk w hb => not_gd g W.heap.size (P k) (f k) w ((hb.cell (p := ⟨W.heap.size, 0, none⟩) (by simp)).trans (by simp)) hcf (hg k hk)))
  have HE := Lib.hid (idx_every f n)
  clear hr hg hcf hb0
  go_enter Tryz.func85, Tryz.ntmps85
  go_wp2_with fail
  refine H.out.mono ?_
  rintro e w1 ⟨rfl, hb1⟩
  go_wp2_with fail
  go_ret
  exact ⟨by rw [← HE.out]; rfl, (by repeat (first | (with_reducible exact Below.refl _ _) | (with_reducible refine Below.drew ?_) | (with_reducible refine below_drewN ?_ _) | ((with_reducible refine below_alloc ?_ ?_ _); · (first | exact Nat.le_refl _ | omega | (simp; done) | (simp; omega) | (simp at *; omega))) | ((with_reducible refine below_set ?_ ?_ _); · (first | exact Nat.le_refl _ | omega | (simp; done) | (simp; omega) | (simp at *; omega))) | ((with_reducible refine below_via (by with_reducible assumption) ?_ ?_); · (first | exact Nat.le_refl _ | omega | (simp; done) | (simp; omega) | (simp at *; omega)))))⟩

set_option maxRecDepth 100000 in
set_option maxHeartbeats 1000000 in
theorem idx_int (A : Option Addr) (n c : Nat) (P : Nat → Int) (W : World) (hr : IntRow W W.heap.size A n P) (hn : n ≤ 1000) (h cb : Nat) (f : Nat → Bool)
    (hcf : ∀ args w, (callFunc h args).run Tryz.prog w = .ok (.enter h args) w)
    (hf : ∀ k, k < n → ∀ w, Below W.heap.size W w → Calls Tryz.prog h #[.int .i64 (P k), .pointer (some ⟨cb, 0, none⟩)] w fun e w' => e = .returned (.bool (f k)) ∧ Below w.heap.size w w') :
    Calls Tryz.prog 123 #[.slice A n c, .func (.func h) #[] #[.pointer (some ⟨cb, 0, none⟩)]] W fun e w' => e = .returned (.int .i64 (idxFrom f n 0)) ∧ Below W.heap.size W w' := by
  have HR := Lib.hid hr
  have HF := Lib.hid hf
  clear hr hf
  go_enter Tryz.func123, Tryz.ntmps123
  go_wp2_with fail
  go_loopw [8] (fun i wr => ∃ k : Nat, k ≤ n ∧ i = .int .i64 k ∧ Hid (idxFrom f n 0 = idxFrom f (n - k) k) ∧ Below W.heap.size W wr) (fun i _ => n - (intOf i).toNat)
  case atStart => exact ⟨0, Nat.zero_le _, rfl, Lib.hid rfl, Below.refl _ _⟩
  case round =>
    obtain ⟨k, hk, rfl, h0, hbw⟩ := hrel
    have HBW := Lib.hid hbw
    clear hbw
    by_cases hlt : k < n
    · obtain ⟨b, o, rfl, hb', c0⟩ := HR.out.below HBW.out k hlt
      have hcall := Lib.hid (HF.out k hlt wr HBW.out)
      go_wp2_with fail
      refine hcall.out.mono ?_
      rintro e w1 ⟨rfl, hb1⟩
      have hsz := HBW.out.size
      by_cases hh : f k = true
      · have HH := Lib.hid hh
        have hy := HBW.out
        go_wp2_with fail
        go_ret
        exact ⟨by rw [idx_yes hlt h0.out HH.out]; rfl, (by repeat (first | (with_reducible exact Below.refl _ _) | (with_reducible refine Below.drew ?_) | (with_reducible refine below_drewN ?_ _) | ((with_reducible refine below_alloc ?_ ?_ _); · (first | exact Nat.le_refl _ | omega | (simp; done) | (simp; omega) | (simp at *; omega))) | ((with_reducible refine below_set ?_ ?_ _); · (first | exact Nat.le_refl _ | omega | (simp; done) | (simp; omega) | (simp at *; omega))) | ((with_reducible refine below_via (by with_reducible assumption) ?_ ?_); · (first | exact Nat.le_refl _ | omega | (simp; done) | (simp; omega) | (simp at *; omega)))))⟩
      · simp only [Bool.not_eq_true] at hh
        have HH := Lib.hid hh
        have hall : Hid (Below W.heap.size W w1) := Lib.hid (by have hy := HBW.out; exact (by repeat (first | (with_reducible exact Below.refl _ _) | (with_reducible refine Below.drew ?_) | (with_reducible refine below_drewN ?_ _) | ((with_reducible refine below_alloc ?_ ?_ _); · (first | exact Nat.le_refl _ | omega | (simp; done) | (simp; omega) | (simp at *; omega))) | ((with_reducible refine below_set ?_ ?_ _); · (first | exact Nat.le_refl _ | omega | (simp; done) | (simp; omega) | (simp at *; omega))) | ((with_reducible refine below_via (by with_reducible assumption) ?_ ?_); · (first | exact Nat.le_refl _ | omega | (simp; done) | (simp; omega) | (simp at *; omega))))))
        go_wp2_with fail
        go_roundw
        case rel => exact ⟨k + 1, by omega, by go_num, Lib.hid (idx_no hlt h0.out HH.out), hall.out⟩
        case measure => simp [intOf]; omega
    · have hk' : k = n := by omega
      go_wp2_with fail
      go_ret
      exact ⟨by rw [idx_end (by have h := h0.out; rwa [hk'] at h)]; rfl, HBW.out⟩

set_option maxRecDepth 100000 in
set_option maxHeartbeats 1000000 in
theorem has_int (A : Option Addr) (n c : Nat) (P : Nat → Int) (W : World) (hr : IntRow W W.heap.size A n P) (hn : n ≤ 1000) (h cb : Nat) (f : Nat → Bool)
    (hcf : ∀ args w, (callFunc h args).run Tryz.prog w = .ok (.enter h args) w)
    (hf : ∀ k, k < n → ∀ w, Below W.heap.size W w → Calls Tryz.prog h #[.int .i64 (P k), .pointer (some ⟨cb, 0, none⟩)] w fun e w' => e = .returned (.bool (f k)) ∧ Below w.heap.size w w') :
    Calls Tryz.prog 104 #[.slice A n c, .func (.func h) #[] #[.pointer (some ⟨cb, 0, none⟩)]] W fun e w' => e = .returned (.bool (decide (0 ≤ idxFrom f n 0))) ∧ Below W.heap.size W w' := by
  have H := Lib.hid (idx_int A n c P W hr hn h cb f hcf hf)
  clear hr hf hcf
  go_enter Tryz.func104, Tryz.ntmps104
  go_wp2_with fail
  refine H.out.mono ?_
  rintro e w1 ⟨rfl, hb1⟩
  go_wp2_with fail
  go_ret
  exact ⟨rfl, hb1⟩

set_option maxRecDepth 100000 in
set_option maxHeartbeats 1000000 in
/-- the closure of lot.every -/
theorem not_int (g cb : Nat) (p : Int) (f : Bool) (w : World) (hc : w.cell? ⟨cb, 0, none⟩ = some (.func (.func g) #[] #[])) (hcf : ∀ args w, (callFunc g args).run Tryz.prog w = .ok (.enter g args) w)
    (hg : ∀ w, Calls Tryz.prog g #[.int .i64 p] w fun e w' => e = .returned (.bool f) ∧ Below w.heap.size w w') :
    Calls Tryz.prog 105 #[.int .i64 p, .pointer (some ⟨cb, 0, none⟩)] w fun e w' => e = .returned (.bool (!f)) ∧ Below w.heap.size w w' := by
  have HG := Lib.hid hg
  have hl : cb < w.heap.size := World.block_lt_of_cell? w _ hc
  clear hg
  go_enter Tryz.func105, Tryz.ntmps105
  go_wp2_with fail
  refine (HG.out _).mono ?_
  rintro e w1 ⟨rfl, hb1⟩
  go_wp2_with fail
  go_ret
  exact ⟨rfl, (by repeat (first | (with_reducible exact Below.refl _ _) | (with_reducible refine Below.drew ?_) | (with_reducible refine below_drewN ?_ _) | ((with_reducible refine below_alloc ?_ ?_ _); · (first | exact Nat.le_refl _ | omega | (simp; done) | (simp; omega) | (simp at *; omega))) | ((with_reducible refine below_set ?_ ?_ _); · (first | exact Nat.le_refl _ | omega | (simp; done) | (simp; omega) | (simp at *; omega))) | ((with_reducible refine below_via (by with_reducible assumption) ?_ ?_); · (first | exact Nat.le_refl _ | omega | (simp; done) | (simp; omega) | (simp at *; omega)))))⟩

set_option maxRecDepth 100000 in
set_option maxHeartbeats 1000000 in
/-- lot.every -/
theorem every_int (A : Option Addr) (n c : Nat) (P : Nat → Int) (W : World) (hr : IntRow W W.heap.size A n P) (hn : n ≤ 1000) (g : Nat) (f : Nat → Bool)
    (hcf : ∀ args w, (callFunc g args).run Tryz.prog w = .ok (.enter g args) w)
    (hg : ∀ k, k < n → ∀ w, Calls Tryz.prog g #[.int .i64 (P k)] w fun e w' => e = .returned (.bool (f k)) ∧ Below w.heap.size w w') :
    Calls Tryz.prog 72 #[.slice A n c, .func (.func g) #[] #[]] W fun e w' => e = .returned (.bool (allN f n)) ∧ Below W.heap.size W w' := by
  have hb0 : Below W.heap.size W (W.alloc (.cells #[.func (.func g) #[] #[]] 68)) := (Below.refl _ _).alloc (Nat.le_refl _) _
  have H := Lib.hid (has_int A n c P (W.alloc (.cells #[.func (.func g) #[] #[]] 68)) ((hr.below hb0).mono (by simp)) hn 105 W.heap.size (fun k => !f k) (enters_of Tryz.func105 (by kernel_rfl) rfl)
    (fun k hk w hb => not_int g W.heap.size (P k) (f k) w ((hb.cell (p := ⟨W.heap.size, 0, none⟩) (by simp)).trans (by simp)) hcf (hg k hk)))
  have HE := Lib.hid (idx_every f n)
  clear hr hg hcf hb0
  go_enter Tryz.func72, Tryz.ntmps72
  go_wp2_with fail
  refine H.out.mono ?_
  rintro e w1 ⟨rfl, hb1⟩
  go_wp2_with fail
  go_ret
  exact ⟨by rw [← HE.out]; rfl, (by repeat (first | (with_reducible exact Below.refl _ _) | (with_reducible refine Below.drew ?_) | (with_reducible refine below_drewN ?_ _) | ((with_reducible refine below_alloc ?_ ?_ _); · (first | exact Nat.le_refl _ | omega | (simp; done) | (simp; omega) | (simp at *; omega))) | ((with_reducible refine below_set ?_ ?_ _); · (first | exact Nat.le_refl _ | omega | (simp; done) | (simp; omega) | (simp at *; omega))) | ((with_reducible refine below_via (by with_reducible assumption) ?_ ?_); · (first | exact Nat.le_refl _ | omega | (simp; done) | (simp; omega) | (simp at *; omega)))))⟩
end Go.Proofs.YtmbkngfcbgbeiaaGreat
