/- Rows of trays and of hands; belt.all. (Written by gen_all.py.) -/
import Derived.Test.YtmbkngfcbgbeiaaGreatWe
import Derived.Test.YtmbkngfcbgbeiaaGreatEp
set_option linter.unusedSimpArgs false
set_option linter.unusedVariables false
namespace Go.Proofs.YtmbkngfcbgbeiaaGreat
open Go.RowKit Go.Shelf

abbrev trV (t : Nat → Int) : Value := .agg #[.int .i64 (t 0), .int .i64 (t 1), .int .i64 (t 2), .int .i64 (t 3), .int .i64 (t 4)]
/-- a hand, and where its rests lie -/
structure HndA where
  h : Hnd
  a : Option Addr
  c : Nat
abbrev hdV (x : HndA) : Value := .agg #[.bool (x.h.tk 0), .bool (x.h.tk 1), .bool (x.h.tk 2), .bool (x.h.tk 3), .bool (x.h.tk 4), .int .i64 x.h.st, .int .i64 x.h.ti, .int .i64 x.h.sl, .slice x.a x.h.nr x.c]
/-- a row of trays -/
def TrRow (w : World) (B : Nat) (A : Option Addr) (n : Nat) (T : Nat → Nat → Int) : Prop :=
  ∀ k, k < n → ∃ b o, A = some ⟨b, o, none⟩ ∧ b < B ∧ w.cell? ⟨b, o + k * 5, none⟩ = some (.int .i64 (T k 0)) ∧ w.cell? ⟨b, o + k * 5 + 1, none⟩ = some (.int .i64 (T k 1)) ∧ w.cell? ⟨b, o + k * 5 + 2, none⟩ = some (.int .i64 (T k 2)) ∧ w.cell? ⟨b, o + k * 5 + 3, none⟩ = some (.int .i64 (T k 3)) ∧ w.cell? ⟨b, o + k * 5 + 4, none⟩ = some (.int .i64 (T k 4))
theorem TrRow.below {w w' : World} {B : Nat} {A : Option Addr} {n : Nat} {P : Nat → Nat → Int} (h : TrRow w B A n P) (hb : Below B w w') : TrRow w' B A n P := fun k hk => by
  obtain ⟨b, o, hA, hB, c0, c1, c2, c3, c4⟩ := h k hk
  exact ⟨b, o, hA, hB, (hb.cell (p := ⟨b, _, none⟩) hB).trans c0, (hb.cell (p := ⟨b, _, none⟩) hB).trans c1, (hb.cell (p := ⟨b, _, none⟩) hB).trans c2, (hb.cell (p := ⟨b, _, none⟩) hB).trans c3, (hb.cell (p := ⟨b, _, none⟩) hB).trans c4⟩
theorem TrRow.mono {w : World} {B B' : Nat} {A : Option Addr} {n : Nat} {P : Nat → Nat → Int} (h : TrRow w B A n P) (hb : B ≤ B') : TrRow w B' A n P := fun k hk => by
  obtain ⟨b, o, hA, hB, c⟩ := h k hk
  exact ⟨b, o, hA, Nat.lt_of_lt_of_le hB hb, c⟩
/-- a row of hands -/
def HdRow (w : World) (B : Nat) (A : Option Addr) (n : Nat) (G : Nat → HndA) : Prop :=
  ∀ k, k < n → ∃ b o, A = some ⟨b, o, none⟩ ∧ b < B ∧ w.cell? ⟨b, o + k * 9, none⟩ = some (.bool ((G k).h.tk 0)) ∧ w.cell? ⟨b, o + k * 9 + 1, none⟩ = some (.bool ((G k).h.tk 1)) ∧ w.cell? ⟨b, o + k * 9 + 2, none⟩ = some (.bool ((G k).h.tk 2)) ∧ w.cell? ⟨b, o + k * 9 + 3, none⟩ = some (.bool ((G k).h.tk 3)) ∧ w.cell? ⟨b, o + k * 9 + 4, none⟩ = some (.bool ((G k).h.tk 4)) ∧ w.cell? ⟨b, o + k * 9 + 5, none⟩ = some (.int .i64 (G k).h.st) ∧ w.cell? ⟨b, o + k * 9 + 6, none⟩ = some (.int .i64 (G k).h.ti) ∧ w.cell? ⟨b, o + k * 9 + 7, none⟩ = some (.int .i64 (G k).h.sl) ∧ w.cell? ⟨b, o + k * 9 + 8, none⟩ = some (.slice (G k).a (G k).h.nr (G k).c)
theorem HdRow.below {w w' : World} {B : Nat} {A : Option Addr} {n : Nat} {P : Nat → HndA} (h : HdRow w B A n P) (hb : Below B w w') : HdRow w' B A n P := fun k hk => by
  obtain ⟨b, o, hA, hB, c0, c1, c2, c3, c4, c5, c6, c7, c8⟩ := h k hk
  exact ⟨b, o, hA, hB, (hb.cell (p := ⟨b, _, none⟩) hB).trans c0, (hb.cell (p := ⟨b, _, none⟩) hB).trans c1, (hb.cell (p := ⟨b, _, none⟩) hB).trans c2, (hb.cell (p := ⟨b, _, none⟩) hB).trans c3, (hb.cell (p := ⟨b, _, none⟩) hB).trans c4, (hb.cell (p := ⟨b, _, none⟩) hB).trans c5, (hb.cell (p := ⟨b, _, none⟩) hB).trans c6, (hb.cell (p := ⟨b, _, none⟩) hB).trans c7, (hb.cell (p := ⟨b, _, none⟩) hB).trans c8⟩
theorem HdRow.mono {w : World} {B B' : Nat} {A : Option Addr} {n : Nat} {P : Nat → HndA} (h : HdRow w B A n P) (hb : B ≤ B') : HdRow w B' A n P := fun k hk => by
  obtain ⟨b, o, hA, hB, c⟩ := h k hk
  exact ⟨b, o, hA, Nat.lt_of_lt_of_le hB hb, c⟩

set_option maxRecDepth 100000 in
set_option maxHeartbeats 1000000 in
theorem idx_tr (A : Option Addr) (n c : Nat) (P : Nat → (Nat → Int)) (W : World) (hr : TrRow W W.heap.size A n P) (hn : n ≤ 1000) (h cb : Nat) (f : Nat → Bool)
    (hcf : ∀ args w, (callFunc h args).run Tryz.prog w = .ok (.enter h args) w)
    (hf : ∀ k, k < n → ∀ w, Below W.heap.size W w → Calls Tryz.prog h #[trV (P k), .pointer (some ⟨cb, 0, none⟩)] w fun e w' => e = .returned (.bool (f k)) ∧ Below w.heap.size w w') :
    Calls Tryz.prog 138 #[.slice A n c, .func (.func h) #[] #[.pointer (some ⟨cb, 0, none⟩)]] W fun e w' => e = .returned (.int .i64 (idxFrom f n 0)) ∧ Below W.heap.size W w' := by
  have HR := Lib.hid hr
  have HF := Lib.hid hf
  clear hr hf
  go_enter Tryz.func138, Tryz.ntmps138
  go_wp2_with fail
  go_loopw [8] (fun i wr => ∃ k : Nat, k ≤ n ∧ i = .int .i64 k ∧ Hid (idxFrom f n 0 = idxFrom f (n - k) k) ∧ Below W.heap.size W wr) (fun i _ => n - (intOf i).toNat)
  case atStart => exact ⟨0, Nat.zero_le _, rfl, Lib.hid rfl, Below.refl _ _⟩
  case round =>
    obtain ⟨k, hk, rfl, h0, hbw⟩ := hrel
    have HBW := Lib.hid hbw
    clear hbw
    by_cases hlt : k < n
    · obtain ⟨b, o, rfl, hb', c0, c1, c2, c3, c4⟩ := HR.out.below HBW.out k hlt
      have hcall := Lib.hid (HF.out k hlt wr HBW.out)
      go_wp2_with fail
      refine hcall.out.mono ?_
      rintro e w1 ⟨rfl, hb1⟩
      have hsz := HBW.out.size
      by_cases hh : f k = true
      · have HH := Lib.hid hh
        have hy := HBW.out
        go_wp2_with fail
        go_ret
        exact ⟨by rw [idx_yes hlt h0.out HH.out]; rfl, (by repeat (first | (with_reducible exact Below.refl _ _) | (with_reducible refine Below.drew ?_) | (with_reducible refine below_drewN ?_ _) | ((with_reducible refine below_alloc ?_ ?_ _); · (first | exact Nat.le_refl _ | omega | (simp; done) | (simp; omega) | (simp at *; omega))) | ((with_reducible refine below_set ?_ ?_ _); · (first | exact Nat.le_refl _ | omega | (simp; done) | (simp; omega) | (simp at *; omega))) | ((with_reducible refine below_via (by with_reducible assumption) ?_ ?_); · (first | exact Nat.le_refl _ | omega | (simp; done) | (simp; omega) | (simp at *; omega)))))⟩
      · simp only [Bool.not_eq_true] at hh
        have HH := Lib.hid hh
        have hall : Hid (Below W.heap.size W w1) := Lib.hid (by have hy := HBW.out; exact (by repeat (first | (with_reducible exact Below.refl _ _) | (with_reducible refine Below.drew ?_) | (with_reducible refine below_drewN ?_ _) | ((with_reducible refine below_alloc ?_ ?_ _); · (first | exact Nat.le_refl _ | omega | (simp; done) | (simp; omega) | (simp at *; omega))) | ((with_reducible refine below_set ?_ ?_ _); · (first | exact Nat.le_refl _ | omega | (simp; done) | (simp; omega) | (simp at *; omega))) | ((with_reducible refine below_via (by with_reducible assumption) ?_ ?_); · (first | exact Nat.le_refl _ | omega | (simp; done) | (simp; omega) | (simp at *; omega))))))
        go_wp2_with fail
        go_roundw
        case rel => exact ⟨k + 1, by omega, by go_num, Lib.hid (idx_no hlt h0.out HH.out), hall.out⟩
        case measure => simp [intOf]; omega
    · have hk' : k = n := by omega
      go_wp2_with fail
      go_ret
      exact ⟨by rw [idx_end (by have h := h0.out; rwa [hk'] at h)]; rfl, HBW.out⟩

set_option maxRecDepth 100000 in
set_option maxHeartbeats 1000000 in
theorem has_tr (A : Option Addr) (n c : Nat) (P : Nat → (Nat → Int)) (W : World) (hr : TrRow W W.heap.size A n P) (hn : n ≤ 1000) (h cb : Nat) (f : Nat → Bool)
    (hcf : ∀ args w, (callFunc h args).run Tryz.prog w = .ok (.enter h args) w)
    (hf : ∀ k, k < n → ∀ w, Below W.heap.size W w → Calls Tryz.prog h #[trV (P k), .pointer (some ⟨cb, 0, none⟩)] w fun e w' => e = .returned (.bool (f k)) ∧ Below w.heap.size w w') :
    Calls Tryz.prog 116 #[.slice A n c, .func (.func h) #[] #[.pointer (some ⟨cb, 0, none⟩)]] W fun e w' => e = .returned (.bool (decide (0 ≤ idxFrom f n 0))) ∧ Below W.heap.size W w' := by
  have H := Lib.hid (idx_tr A n c P W hr hn h cb f hcf hf)
  clear hr hf hcf
  go_enter Tryz.func116, Tryz.ntmps116
  go_wp2_with fail
  refine H.out.mono ?_
  rintro e w1 ⟨rfl, hb1⟩
  go_wp2_with fail
  go_ret
  exact ⟨rfl, hb1⟩


set_option maxRecDepth 100000 in
set_option maxHeartbeats 1000000 in
theorem idx_hd (A : Option Addr) (n c : Nat) (P : Nat → HndA) (W : World) (hr : HdRow W W.heap.size A n P) (hn : n ≤ 1000) (h cb : Nat) (f : Nat → Bool)
    (hcf : ∀ args w, (callFunc h args).run Tryz.prog w = .ok (.enter h args) w)
    (hf : ∀ k, k < n → ∀ w, Below W.heap.size W w → Calls Tryz.prog h #[hdV (P k), .pointer (some ⟨cb, 0, none⟩)] w fun e w' => e = .returned (.bool (f k)) ∧ Below w.heap.size w w') :
    Calls Tryz.prog 139 #[.slice A n c, .func (.func h) #[] #[.pointer (some ⟨cb, 0, none⟩)]] W fun e w' => e = .returned (.int .i64 (idxFrom f n 0)) ∧ Below W.heap.size W w' := by
  have HR := Lib.hid hr
  have HF := Lib.hid hf
  clear hr hf
  go_enter Tryz.func139, Tryz.ntmps139
  go_wp2_with fail
  go_loopw [8] (fun i wr => ∃ k : Nat, k ≤ n ∧ i = .int .i64 k ∧ Hid (idxFrom f n 0 = idxFrom f (n - k) k) ∧ Below W.heap.size W wr) (fun i _ => n - (intOf i).toNat)
  case atStart => exact ⟨0, Nat.zero_le _, rfl, Lib.hid rfl, Below.refl _ _⟩
  case round =>
    obtain ⟨k, hk, rfl, h0, hbw⟩ := hrel
    have HBW := Lib.hid hbw
    clear hbw
    by_cases hlt : k < n
    · obtain ⟨b, o, rfl, hb', c0, c1, c2, c3, c4, c5, c6, c7, c8⟩ := HR.out.below HBW.out k hlt
      have hcall := Lib.hid (HF.out k hlt wr HBW.out)
      go_wp2_with fail
      refine hcall.out.mono ?_
      rintro e w1 ⟨rfl, hb1⟩
      have hsz := HBW.out.size
      by_cases hh : f k = true
      · have HH := Lib.hid hh
        have hy := HBW.out
        go_wp2_with fail
        go_ret
        exact ⟨by rw [idx_yes hlt h0.out HH.out]; rfl, (by repeat (first | (with_reducible exact Below.refl _ _) | (with_reducible refine Below.drew ?_) | (with_reducible refine below_drewN ?_ _) | ((with_reducible refine below_alloc ?_ ?_ _); · (first | exact Nat.le_refl _ | omega | (simp; done) | (simp; omega) | (simp at *; omega))) | ((with_reducible refine below_set ?_ ?_ _); · (first | exact Nat.le_refl _ | omega | (simp; done) | (simp; omega) | (simp at *; omega))) | ((with_reducible refine below_via (by with_reducible assumption) ?_ ?_); · (first | exact Nat.le_refl _ | omega | (simp; done) | (simp; omega) | (simp at *; omega)))))⟩
      · simp only [Bool.not_eq_true] at hh
        have HH := Lib.hid hh
        have hall : Hid (Below W.heap.size W w1) := Lib.hid (by have hy := HBW.out; exact (by repeat (first | (with_reducible exact Below.refl _ _) | (with_reducible refine Below.drew ?_) | (with_reducible refine below_drewN ?_ _) | ((with_reducible refine below_alloc ?_ ?_ _); · (first | exact Nat.le_refl _ | omega | (simp; done) | (simp; omega) | (simp at *; omega))) | ((with_reducible refine below_set ?_ ?_ _); · (first | exact Nat.le_refl _ | omega | (simp; done) | (simp; omega) | (simp at *; omega))) | ((with_reducible refine below_via (by with_reducible assumption) ?_ ?_); · (first | exact Nat.le_refl _ | omega | (simp; done) | (simp; omega) | (simp at *; omega))))))
        go_wp2_with fail
        go_roundw
        case rel => exact ⟨k + 1, by omega, by go_num, Lib.hid (idx_no hlt h0.out HH.out), hall.out⟩
        case measure => simp [intOf]; omega
    · have hk' : k = n := by omega
      go_wp2_with fail
      go_ret
      exact ⟨by rw [idx_end (by have h := h0.out; rwa [hk'] at h)]; rfl, HBW.out⟩

set_option maxRecDepth 100000 in
set_option maxHeartbeats 1000000 in
theorem has_hd (A : Option Addr) (n c : Nat) (P : Nat → HndA) (W : World) (hr : HdRow W W.heap.size A n P) (hn : n ≤ 1000) (h cb : Nat) (f : Nat → Bool)
    (hcf : ∀ args w, (callFunc h args).run Tryz.prog w = .ok (.enter h args) w)
    (hf : ∀ k, k < n → ∀ w, Below W.heap.size W w → Calls Tryz.prog h #[hdV (P k), .pointer (some ⟨cb, 0, none⟩)] w fun e w' => e = .returned (.bool (f k)) ∧ Below w.heap.size w w') :
    Calls Tryz.prog 119 #[.slice A n c, .func (.func h) #[] #[.pointer (some ⟨cb, 0, none⟩)]] W fun e w' => e = .returned (.bool (decide (0 ≤ idxFrom f n 0))) ∧ Below W.heap.size W w' := by
  have H := Lib.hid (idx_hd A n c P W hr hn h cb f hcf hf)
  clear hr hf hcf
  go_enter Tryz.func119, Tryz.ntmps119
  go_wp2_with fail
  refine H.out.mono ?_
  rintro e w1 ⟨rfl, hb1⟩
  go_wp2_with fail
  go_ret
  exact ⟨rfl, hb1⟩


set_option maxRecDepth 100000 in
set_option maxHeartbeats 1000000 in
/-- the closure of belt.all -/
theorem bnot_tr (g cb : Nat) (p : (Nat → Int)) (f : Bool) (w : World) (hc : w.cell? ⟨cb, 0, none⟩ = some (.func (.func g) #[] #[])) (hcf : ∀ args w, (callFunc g args).run Tryz.prog w = .ok (.enter g args) w)
    (hg : ∀ w', Below w.heap.size w w' → Calls Tryz.prog g #[trV p] w' fun e w'' => e = .returned (.bool f) ∧ Below w'.heap.size w' w'') :
    Calls Tryz.prog 117 #[trV p, .pointer (some ⟨cb, 0, none⟩)] w fun e w' => e = .returned (.bool (!f)) ∧ Below w.heap.size w w' := by
  have HG := Lib.hid hg
  have hl : cb < w.heap.size := World.block_lt_of_cell? w _ hc
  clear hg
  go_enter Tryz.func117, Tryz.ntmps117
  go_wp2_with fail
  refine (HG.out _ (by repeat (first | (with_reducible exact Below.refl _ _) | (with_reducible refine Below.drew ?_) | (with_reducible refine below_drewN ?_ _) | ((with_reducible refine below_alloc ?_ ?_ _); · (first | exact Nat.le_refl _ | omega | (simp; done) | (simp; omega) | (simp at *; omega))) | ((with_reducible refine below_set ?_ ?_ _); · (first | exact Nat.le_refl _ | omega | (simp; done) | (simp; omega) | (simp at *; omega))) | ((with_reducible refine below_via (by with_reducible assumption) ?_ ?_); · (first | exact Nat.le_refl _ | omega | (simp; done) | (simp; omega) | (simp at *; omega)))))).mono ?_
  rintro e w1 ⟨rfl, hb1⟩
  go_wp2_with fail
  go_ret
  exact ⟨rfl, (by repeat (first | (with_reducible exact Below.refl _ _) | (with_reducible refine Below.drew ?_) | (with_reducible refine below_drewN ?_ _) | ((with_reducible refine below_alloc ?_ ?_ _); · (first | exact Nat.le_refl _ | omega | (simp; done) | (simp; omega) | (simp at *; omega))) | ((with_reducible refine below_set ?_ ?_ _); · (first | exact Nat.le_refl _ | omega | (simp; done) | (simp; omega) | (simp at *; omega))) | ((with_reducible refine below_via (by with_reducible assumption) ?_ ?_); · (first | exact Nat.le_refl _ | omega | (simp; done) | (simp; omega) | (simp at *; omega)))))⟩

set_option maxRecDepth 100000 in
set_option maxHeartbeats 1000000 in
/-- belt.all -/
theorem ball_tr (A : Option Addr) (n c : Nat) (P : Nat → (Nat → Int)) (W : World) (hr : TrRow W W.heap.size A n P) (hn : n ≤ 1000) (g : Nat) (f : Nat → Bool)
    (hcf : ∀ args w, (callFunc g args).run Tryz.prog w = .ok (.enter g args) w)
    (hg : ∀ k, k < n → ∀ w, Below W.heap.size W w → Calls Tryz.prog g #[trV (P k)] w fun e w' => e = .returned (.bool (f k)) ∧ Below w.heap.size w w') :
    Calls Tryz.prog 91 #[.slice A n c, .func (.func g) #[] #[]] W fun e w' => e = .returned (.bool (allN f n)) ∧ Below W.heap.size W w' := by
  have hb0 : Below W.heap.size W (W.alloc (.cells #[.func (.func g) #[] #[]] 181)) := (Below.refl _ _).alloc (Nat.le_refl _) _
  have H := Lib.hid (has_tr A n c P (W.alloc (.cells #[.func (.func g) #[] #[]] 181)) ((hr.below hb0).mono (by simp)) hn 117 W.heap.size (fun k => !f k) (enters_of Tryz.func117 (by kernel_rfl) rfl)
    (fun k hk w hb => bnot_tr g W.heap.size (P k) (f k) w ((hb.cell (p := ⟨W.heap.size, 0, none⟩) (by simp)).trans (by simp)) hcf (fun w' hb' => hg k hk w' (hb0.trans ((hb.mono (by simp)).trans (hb'.mono (by have := hb.size; simp at this; omega)))))))
  have HE := Lib.hid (idx_every f n)
  clear hr hg hcf hb0
  go_enter Tryz.func91, Tryz.ntmps91
  go_wp2_with fail
  refine H.out.mono ?_
  rintro e w1 ⟨rfl, hb1⟩
  go_wp2_with fail
  go_ret
  exact ⟨by rw [← HE.out]; rfl, (by repeat (first | (with_reducible exact Below.refl _ _) | (with_reducible refine Below.drew ?_) | (with_reducible refine below_drewN ?_ _) | ((with_reducible refine below_alloc ?_ ?_ _); · (first | exact Nat.le_refl _ | omega | (simp; done) | (simp; omega) | (simp at *; omega))) | ((with_reducible refine below_set ?_ ?_ _); · (first | exact Nat.le_refl _ | omega | (simp; done) | (simp; omega) | (simp at *; omega))) | ((with_reducible refine below_via (by with_reducible assumption) ?_ ?_); · (first | exact Nat.le_refl _ | omega | (simp; done) | (simp; omega) | (simp at *; omega)))))⟩

set_option maxRecDepth 100000 in
set_option maxHeartbeats 1000000 in
/-- the closure of belt.all -/
theorem bnot_hd (g cb : Nat) (p : HndA) (f : Bool) (w : World) (hc : w.cell? ⟨cb, 0, none⟩ = some (.func (.func g) #[] #[])) (hcf : ∀ args w, (callFunc g args).run Tryz.prog w = .ok (.enter g args) w)
    (hg : ∀ w', Below w.heap.size w w' → Calls Tryz.prog g #[hdV p] w' fun e w'' => e = .returned (.bool f) ∧ Below w'.heap.size w' w'') :
    Calls Tryz.prog 120 #[hdV p, .pointer (some ⟨cb, 0, none⟩)] w fun e w' => e = .returned (.bool (!f)) ∧ Below w.heap.size w w' := by
  have HG := Lib.hid hg
  have hl : cb < w.heap.size := World.block_lt_of_cell? w _ hc
  clear hg
  go_enter Tryz.func120, Tryz.ntmps120
  go_wp2_with fail
  refine (HG.out _ (by repeat (first | (with_reducible exact Below.refl _ _) | (with_reducible refine Below.drew ?_) | (with_reducible refine below_drewN ?_ _) | ((with_reducible refine below_alloc ?_ ?_ _); · (first | exact Nat.le_refl _ | omega | (simp; done) | (simp; omega) | (simp at *; omega))) | ((with_reducible refine below_set ?_ ?_ _); · (first | exact Nat.le_refl _ | omega | (simp; done) | (simp; omega) | (simp at *; omega))) | ((with_reducible refine below_via (by with_reducible assumption) ?_ ?_); · (first | exact Nat.le_refl _ | omega | (simp; done) | (simp; omega) | (simp at *; omega)))))).mono ?_
  rintro e w1 ⟨rfl, hb1⟩
  go_wp2_with fail
  go_ret
  exact ⟨rfl, (by repeat (first | (with_reducible exact Below.refl _ _) | (with_reducible refine Below.drew ?_) | (with_reducible refine below_drewN ?_ _) | ((with_reducible refine below_alloc ?_ ?_ _); · (first | exact Nat.le_refl _ | omega | (simp; done) | (simp; omega) | (simp at *; omega))) | ((with_reducible refine below_set ?_ ?_ _); · (first | exact Nat.le_refl _ | omega | (simp; done) | (simp; omega) | (simp at *; omega))) | ((with_reducible refine below_via (by with_reducible assumption) ?_ ?_); · (first | exact Nat.le_refl _ | omega | (simp; done) | (simp; omega) | (simp at *; omega)))))⟩

set_option maxRecDepth 100000 in
set_option maxHeartbeats 1000000 in
/-- belt.all -/
theorem ball_hd (A : Option Addr) (n c : Nat) (P : Nat → HndA) (W : World) (hr : HdRow W W.heap.size A n P) (hn : n ≤ 1000) (g : Nat) (f : Nat → Bool)
    (hcf : ∀ args w, (callFunc g args).run Tryz.prog w = .ok (.enter g args) w)
    (hg : ∀ k, k < n → ∀ w, Below W.heap.size W w → Calls Tryz.prog g #[hdV (P k)] w fun e w' => e = .returned (.bool (f k)) ∧ Below w.heap.size w w') :
    Calls Tryz.prog 93 #[.slice A n c, .func (.func g) #[] #[]] W fun e w' => e = .returned (.bool (allN f n)) ∧ Below W.heap.size W w' := by
  have hb0 : Below W.heap.size W (W.alloc (.cells #[.func (.func g) #[] #[]] 183)) := (Below.refl _ _).alloc (Nat.le_refl _) _
  have H := Lib.hid (has_hd A n c P (W.alloc (.cells #[.func (.func g) #[] #[]] 183)) ((hr.below hb0).mono (by simp)) hn 120 W.heap.size (fun k => !f k) (enters_of Tryz.func120 (by kernel_rfl) rfl)
    (fun k hk w hb => bnot_hd g W.heap.size (P k) (f k) w ((hb.cell (p := ⟨W.heap.size, 0, none⟩) (by simp)).trans (by simp)) hcf (fun w' hb' => hg k hk w' (hb0.trans ((hb.mono (by simp)).trans (hb'.mono (by have := hb.size; simp at this; omega)))))))
  have HE := Lib.hid (idx_every f n)
  clear hr hg hcf hb0
  go_enter Tryz.func93, Tryz.ntmps93
  go_wp2_with fail
  refine H.out.mono ?_
  rintro e w1 ⟨rfl, hb1⟩
  go_wp2_with fail
  go_ret
  exact ⟨by rw [← HE.out]; rfl, (by repeat (first | (with_reducible exact Below.refl _ _) | (with_reducible refine Below.drew ?_) | (with_reducible refine below_drewN ?_ _) | ((with_reducible refine below_alloc ?_ ?_ _); · (first | exact Nat.le_refl _ | omega | (simp; done) | (simp; omega) | (simp at *; omega))) | ((with_reducible refine below_set ?_ ?_ _); · (first | exact Nat.le_refl _ | omega | (simp; done) | (simp; omega) | (simp at *; omega))) | ((with_reducible refine below_via (by with_reducible assumption) ?_ ?_); · (first | exact Nat.le_refl _ | omega | (simp; done) | (simp; omega) | (simp at *; omega)))))⟩

set_option maxRecDepth 100000 in
set_option maxHeartbeats 1000000 in
/-- the closure of belt.all -/
theorem bnot_hdC (g cb xb : Nat) (p : HndA) (f : Bool) (w : World) (hc : w.cell? ⟨cb, 0, none⟩ = some (.func (.func g) #[] #[.pointer (some ⟨xb, 0, none⟩)])) (hcf : ∀ args w, (callFunc g args).run Tryz.prog w = .ok (.enter g args) w)
    (hg : ∀ w', Below w.heap.size w w' → Calls Tryz.prog g #[hdV p, .pointer (some ⟨xb, 0, none⟩)] w' fun e w'' => e = .returned (.bool f) ∧ Below w'.heap.size w' w'') :
    Calls Tryz.prog 120 #[hdV p, .pointer (some ⟨cb, 0, none⟩)] w fun e w' => e = .returned (.bool (!f)) ∧ Below w.heap.size w w' := by
  have HG := Lib.hid hg
  have hl : cb < w.heap.size := World.block_lt_of_cell? w _ hc
  clear hg
  go_enter Tryz.func120, Tryz.ntmps120
  go_wp2_with fail
  refine (HG.out _ (by repeat (first | (with_reducible exact Below.refl _ _) | (with_reducible refine Below.drew ?_) | (with_reducible refine below_drewN ?_ _) | ((with_reducible refine below_alloc ?_ ?_ _); · (first | exact Nat.le_refl _ | omega | (simp; done) | (simp; omega) | (simp at *; omega))) | ((with_reducible refine below_set ?_ ?_ _); · (first | exact Nat.le_refl _ | omega | (simp; done) | (simp; omega) | (simp at *; omega))) | ((with_reducible refine below_via (by with_reducible assumption) ?_ ?_); · (first | exact Nat.le_refl _ | omega | (simp; done) | (simp; omega) | (simp at *; omega)))))).mono ?_
  rintro e w1 ⟨rfl, hb1⟩
  go_wp2_with fail
  go_ret
  exact ⟨rfl, (by repeat (first | (with_reducible exact Below.refl _ _) | (with_reducible refine Below.drew ?_) | (with_reducible refine below_drewN ?_ _) | ((with_reducible refine below_alloc ?_ ?_ _); · (first | exact Nat.le_refl _ | omega | (simp; done) | (simp; omega) | (simp at *; omega))) | ((with_reducible refine below_set ?_ ?_ _); · (first | exact Nat.le_refl _ | omega | (simp; done) | (simp; omega) | (simp at *; omega))) | ((with_reducible refine below_via (by with_reducible assumption) ?_ ?_); · (first | exact Nat.le_refl _ | omega | (simp; done) | (simp; omega) | (simp at *; omega)))))⟩

set_option maxRecDepth 100000 in
set_option maxHeartbeats 1000000 in
/-- belt.all -/
theorem ball_hdC (A : Option Addr) (n c : Nat) (P : Nat → HndA) (W : World) (hr : HdRow W W.heap.size A n P) (hn : n ≤ 1000) (g xb : Nat) (f : Nat → Bool)
    (hcf : ∀ args w, (callFunc g args).run Tryz.prog w = .ok (.enter g args) w)
    (hg : ∀ k, k < n → ∀ w, Below W.heap.size W w → Calls Tryz.prog g #[hdV (P k), .pointer (some ⟨xb, 0, none⟩)] w fun e w' => e = .returned (.bool (f k)) ∧ Below w.heap.size w w') :
    Calls Tryz.prog 93 #[.slice A n c, .func (.func g) #[] #[.pointer (some ⟨xb, 0, none⟩)]] W fun e w' => e = .returned (.bool (allN f n)) ∧ Below W.heap.size W w' := by
  have hb0 : Below W.heap.size W (W.alloc (.cells #[.func (.func g) #[] #[.pointer (some ⟨xb, 0, none⟩)]] 183)) := (Below.refl _ _).alloc (Nat.le_refl _) _
  have H := Lib.hid (has_hd A n c P (W.alloc (.cells #[.func (.func g) #[] #[.pointer (some ⟨xb, 0, none⟩)]] 183)) ((hr.below hb0).mono (by simp)) hn 120 W.heap.size (fun k => !f k) (enters_of Tryz.func120 (by kernel_rfl) rfl)
    (fun k hk w hb => bnot_hdC g W.heap.size xb (P k) (f k) w ((hb.cell (p := ⟨W.heap.size, 0, none⟩) (by simp)).trans (by simp)) hcf (fun w' hb' => hg k hk w' (hb0.trans ((hb.mono (by simp)).trans (hb'.mono (by have := hb.size; simp at this; omega)))))))
  have HE := Lib.hid (idx_every f n)
  clear hr hg hcf hb0
  go_enter Tryz.func93, Tryz.ntmps93
  go_wp2_with fail
  refine H.out.mono ?_
  rintro e w1 ⟨rfl, hb1⟩
  go_wp2_with fail
  go_ret
  exact ⟨by rw [← HE.out]; rfl, (by repeat (first | (with_reducible exact Below.refl _ _) | (with_reducible refine Below.drew ?_) | (with_reducible refine below_drewN ?_ _) | ((with_reducible refine below_alloc ?_ ?_ _); · (first | exact Nat.le_refl _ | omega | (simp; done) | (simp; omega) | (simp at *; omega))) | ((with_reducible refine below_set ?_ ?_ _); · (first | exact Nat.le_refl _ | omega | (simp; done) | (simp; omega) | (simp at *; omega))) | ((with_reducible refine below_via (by with_reducible assumption) ?_ ?_); · (first | exact Nat.le_refl _ | omega | (simp; done) | (simp; omega) | (simp at *; omega)))))⟩

set_option maxRecDepth 100000 in
set_option maxHeartbeats 1000000 in
/-- the closure of belt.all -/
theorem bnot_int (g cb : Nat) (p : Int) (f : Bool) (w : World) (hc : w.cell? ⟨cb, 0, none⟩ = some (.func (.func g) #[] #[])) (hcf : ∀ args w, (callFunc g args).run Tryz.prog w = .ok (.enter g args) w)
    (hg : ∀ w', Below w.heap.size w w' → Calls Tryz.prog g #[.int .i64 p] w' fun e w'' => e = .returned (.bool f) ∧ Below w'.heap.size w' w'') :
    Calls Tryz.prog 121 #[.int .i64 p, .pointer (some ⟨cb, 0, none⟩)] w fun e w' => e = .returned (.bool (!f)) ∧ Below w.heap.size w w' := by
  have HG := Lib.hid hg
  have hl : cb < w.heap.size := World.block_lt_of_cell? w _ hc
  clear hg
  go_enter Tryz.func121, Tryz.ntmps121
  go_wp2_with fail
  refine (HG.out _ (by repeat (first | (with_reducible exact Below.refl _ _) | (with_reducible refine Below.drew ?_) | (with_reducible refine below_drewN ?_ _) | ((with_reducible refine below_alloc ?_ ?_ _); · (first | exact Nat.le_refl _ | omega | (simp; done) | (simp; omega) | (simp at *; omega))) | ((with_reducible refine below_set ?_ ?_ _); · (first | exact Nat.le_refl _ | omega | (simp; done) | (simp; omega) | (simp at *; omega))) | ((with_reducible refine below_via (by with_reducible assumption) ?_ ?_); · (first | exact Nat.le_refl _ | omega | (simp; done) | (simp; omega) | (simp at *; omega)))))).mono ?_
  rintro e w1 ⟨rfl, hb1⟩
  go_wp2_with fail
  go_ret
  exact ⟨rfl, (by repeat (first | (with_reducible exact Below.refl _ _) | (with_reducible refine Below.drew ?_) | (with_reducible refine below_drewN ?_ _) | ((with_reducible refine below_alloc ?_ ?_ _); · (first | exact Nat.le_refl _ | omega | (simp; done) | (simp; omega) | (simp at *; omega))) | ((with_reducible refine below_set ?_ ?_ _); · (first | exact Nat.le_refl _ | omega | (simp; done) | (simp; omega) | (simp at *; omega))) | ((with_reducible refine below_via (by with_reducible assumption) ?_ ?_); · (first | exact Nat.le_refl _ | omega | (simp; done) | (simp; omega) | (simp at *; omega)))))⟩

set_option maxRecDepth 100000 in
set_option maxHeartbeats 1000000 in
/-- belt.all -/
theorem ball_int (A : Option Addr) (n c : Nat) (P : Nat → Int) (W : World) (hr : IntRow W W.heap.size A n P) (hn : n ≤ 1000) (g : Nat) (f : Nat → Bool)
    (hcf : ∀ args w, (callFunc g args).run Tryz.prog w = .ok (.enter g args) w)
    (hg : ∀ k, k < n → ∀ w, Below W.heap.size W w → Calls Tryz.prog g #[.int .i64 (P k)] w fun e w' => e = .returned (.bool (f k)) ∧ Below w.heap.size w w') :
    Calls Tryz.prog 96 #[.slice A n c, .func (.func g) #[] #[]] W fun e w' => e = .returned (.bool (allN f n)) ∧ Below W.heap.size W w' := by
  have hb0 : Below W.heap.size W (W.alloc (.cells #[.func (.func g) #[] #[]] 68)) := (Below.refl _ _).alloc (Nat.le_refl _) _
  have H := Lib.hid (has_int A n c P (W.alloc (.cells #[.func (.func g) #[] #[]] 68)) ((hr.below hb0).mono (by simp)) hn 121 W.heap.size (fun k => !f k) (enters_of Tryz.func121 (by kernel_rfl) rfl)
    (fun k hk w hb => bnot_int g W.heap.size (P k) (f k) w ((hb.cell (p := ⟨W.heap.size, 0, none⟩) (by simp)).trans (by simp)) hcf (fun w' hb' => hg k hk w' (hb0.trans ((hb.mono (by simp)).trans (hb'.mono (by have := hb.size; simp at this; omega)))))))
  have HE := Lib.hid (idx_every f n)
  clear hr hg hcf hb0
  go_enter Tryz.func96, Tryz.ntmps96
  go_wp2_with fail
  refine H.out.mono ?_
  rintro e w1 ⟨rfl, hb1⟩
  go_wp2_with fail
  go_ret
  exact ⟨by rw [← HE.out]; rfl, (by repeat (first | (with_reducible exact Below.refl _ _) | (with_reducible refine Below.drew ?_) | (with_reducible refine below_drewN ?_ _) | ((with_reducible refine below_alloc ?_ ?_ _); · (first | exact Nat.le_refl _ | omega | (simp; done) | (simp; omega) | (simp at *; omega))) | ((with_reducible refine below_set ?_ ?_ _); · (first | exact Nat.le_refl _ | omega | (simp; done) | (simp; omega) | (simp at *; omega))) | ((with_reducible refine below_via (by with_reducible assumption) ?_ ?_); · (first | exact Nat.le_refl _ | omega | (simp; done) | (simp; omega) | (simp at *; omega)))))⟩

set_option maxRecDepth 100000 in
set_option maxHeartbeats 1000000 in
/-- the closure of belt.all -/
theorem bnot_intC (g cb xb : Nat) (p : Int) (f : Bool) (w : World) (hc : w.cell? ⟨cb, 0, none⟩ = some (.func (.func g) #[] #[.pointer (some ⟨xb, 0, none⟩)])) (hcf : ∀ args w, (callFunc g args).run Tryz.prog w = .ok (.enter g args) w)
    (hg : ∀ w', Below w.heap.size w w' → Calls Tryz.prog g #[.int .i64 p, .pointer (some ⟨xb, 0, none⟩)] w' fun e w'' => e = .returned (.bool f) ∧ Below w'.heap.size w' w'') :
    Calls Tryz.prog 121 #[.int .i64 p, .pointer (some ⟨cb, 0, none⟩)] w fun e w' => e = .returned (.bool (!f)) ∧ Below w.heap.size w w' := by
  have HG := Lib.hid hg
  have hl : cb < w.heap.size := World.block_lt_of_cell? w _ hc
  clear hg
  go_enter Tryz.func121, Tryz.ntmps121
  go_wp2_with fail
  refine (HG.out _ (by repeat (first | (with_reducible exact Below.refl _ _) | (with_reducible refine Below.drew ?_) | (with_reducible refine below_drewN ?_ _) | ((with_reducible refine below_alloc ?_ ?_ _); · (first | exact Nat.le_refl _ | omega | (simp; done) | (simp; omega) | (simp at *; omega))) | ((with_reducible refine below_set ?_ ?_ _); · (first | exact Nat.le_refl _ | omega | (simp; done) | (simp; omega) | (simp at *; omega))) | ((with_reducible refine below_via (by with_reducible assumption) ?_ ?_); · (first | exact Nat.le_refl _ | omega | (simp; done) | (simp; omega) | (simp at *; omega)))))).mono ?_
  rintro e w1 ⟨rfl, hb1⟩
  go_wp2_with fail
  go_ret
  exact ⟨rfl, (by repeat (first | (with_reducible exact Below.refl _ _) | (with_reducible refine Below.drew ?_) | (with_reducible refine below_drewN ?_ _) | ((with_reducible refine below_alloc ?_ ?_ _); · (first | exact Nat.le_refl _ | omega | (simp; done) | (simp; omega) | (simp at *; omega))) | ((with_reducible refine below_set ?_ ?_ _); · (first | exact Nat.le_refl _ | omega | (simp; done) | (simp; omega) | (simp at *; omega))) | ((with_reducible refine below_via (by with_reducible assumption) ?_ ?_); · (first | exact Nat.le_refl _ | omega | (simp; done) | (simp; omega) | (simp at *; omega)))))⟩

set_option maxRecDepth 100000 in
set_option maxHeartbeats 1000000 in
/-- belt.all -/
theorem ball_intC (A : Option Addr) (n c : Nat) (P : Nat → Int) (W : World) (hr : IntRow W W.heap.size A n P) (hn : n ≤ 1000) (g xb : Nat) (f : Nat → Bool)
    (hcf : ∀ args w, (callFunc g args).run Tryz.prog w = .ok (.enter g args) w)
    (hg : ∀ k, k < n → ∀ w, Below W.heap.size W w → Calls Tryz.prog g #[.int .i64 (P k), .pointer (some ⟨xb, 0, none⟩)] w fun e w' => e = .returned (.bool (f k)) ∧ Below w.heap.size w w') :
    Calls Tryz.prog 96 #[.slice A n c, .func (.func g) #[] #[.pointer (some ⟨xb, 0, none⟩)]] W fun e w' => e = .returned (.bool (allN f n)) ∧ Below W.heap.size W w' := by
  have hb0 : Below W.heap.size W (W.alloc (.cells #[.func (.func g) #[] #[.pointer (some ⟨xb, 0, none⟩)]] 68)) := (Below.refl _ _).alloc (Nat.le_refl _) _
  have H := Lib.hid (has_int A n c P (W.alloc (.cells #[.func (.func g) #[] #[.pointer (some ⟨xb, 0, none⟩)]] 68)) ((hr.below hb0).mono (by simp)) hn 121 W.heap.size (fun k => !f k) (enters_of Tryz.func121 (by kernel_rfl) rfl)
    (fun k hk w hb => bnot_intC g W.heap.size xb (P k) (f k) w ((hb.cell (p := ⟨W.heap.size, 0, none⟩) (by simp)).trans (by simp)) hcf (fun w' hb' => hg k hk w' (hb0.trans ((hb.mono (by simp)).trans (hb'.mono (by have := hb.size; simp at this; omega)))))))
  have HE := Lib.hid (idx_every f n)
  clear hr hg hcf hb0
  go_enter Tryz.func96, Tryz.ntmps96
  go_wp2_with fail
  refine H.out.mono ?_
  rintro e w1 ⟨rfl, hb1⟩
  go_wp2_with fail
  go_ret
  exact ⟨by rw [← HE.out]; rfl, (by repeat (first | (with_reducible exact Below.refl _ _) | (with_reducible refine Below.drew ?_) | (with_reducible refine below_drewN ?_ _) | ((with_reducible refine below_alloc ?_ ?_ _); · (first | exact Nat.le_refl _ | omega | (simp; done) | (simp; omega) | (simp at *; omega))) | ((with_reducible refine below_set ?_ ?_ _); · (first | exact Nat.le_refl _ | omega | (simp; done) | (simp; omega) | (simp at *; omega))) | ((with_reducible refine below_via (by with_reducible assumption) ?_ ?_); · (first | exact Nat.le_refl _ | omega | (simp; done) | (simp; omega) | (simp at *; omega)))))⟩
end Go.Proofs.YtmbkngfcbgbeiaaGreat
