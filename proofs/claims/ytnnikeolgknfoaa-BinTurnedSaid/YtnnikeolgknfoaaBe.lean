/- slices.IndexFunc, ContainsFunc and bin.every. (Written by gen_rows.py.) -/
import Derived.Test.YtnnikeolgknfoaaBt
set_option linter.unusedSimpArgs false
set_option linter.unusedVariables false
namespace Go.Proofs.Ytnnikeolgknfoaa
open Go.RowKit Go.Shelf

set_option maxRecDepth 100000 in
set_option maxHeartbeats 1000000 in
theorem idx_bn (A : Option Addr) (n c : Nat) (P : Nat → Bn) (W : World) (hr : BnRow W W.heap.size A n P) (hn : n ≤ 1000) (h cb : Nat) (f : Nat → Bool)
    (hcf : ∀ args w, (callFunc h args).run Try.prog w = .ok (.enter h args) w)
    (hf : ∀ k, k < n → ∀ w, Below W.heap.size W w → Calls Try.prog h #[bnV (P k), .pointer (some ⟨cb, 0, none⟩)] w fun e w' => e = .returned (.bool (f k)) ∧ Below w.heap.size w w') :
    Calls Try.prog 101 #[.slice A n c, .func (.func h) #[] #[.pointer (some ⟨cb, 0, none⟩)]] W fun e w' => e = .returned (.int .i64 (idxFrom f n 0)) ∧ Below W.heap.size W w' := by
  have HR := Lib.hid hr
  have HF := Lib.hid hf
  clear hr hf
  go_enter Try.func101, Try.ntmps101
  go_wp2_with fail
  go_loopw [8] (fun i wr => ∃ k : Nat, k ≤ n ∧ i = .int .i64 k ∧ Hid (idxFrom f n 0 = idxFrom f (n - k) k) ∧ Below W.heap.size W wr) (fun i _ => n - (intOf i).toNat)
  case atStart => exact ⟨0, Nat.zero_le _, rfl, Lib.hid rfl, Below.refl _ _⟩
  case round =>
    obtain ⟨k, hk, rfl, h0, hbw⟩ := hrel
    have HBW := Lib.hid hbw
    clear hbw
    by_cases hlt : k < n
    · obtain ⟨b, o, rfl, hb', c0, c1, c2, c3, c4, c5, c6⟩ := HR.out.below HBW.out k hlt
      have hcall := Lib.hid (HF.out k hlt wr HBW.out)
      go_wp2_with fail
      refine hcall.out.mono ?_
      rintro e w1 ⟨rfl, hb1⟩
      have hsz := HBW.out.size
      by_cases hh : f k = true
      · have HH := Lib.hid hh
        have hy := HBW.out
        go_wp2_with fail
        go_ret
        exact ⟨by rw [idx_yes hlt h0.out HH.out]; rfl, (by repeat (first | (with_reducible first | exact Below.refl _ _ | refine Below.drew ?_ | refine below_drewN ?_ _) | ((with_reducible first | refine Lc ?_ ?_ _ | refine Ls ?_ ?_ _ | refine Lv (by assumption) ?_ ?_); · first | exact Nat.le_refl _ | omega | (simp; done) | (simp; omega) | (simp at *; omega))))⟩
      · simp only [Bool.not_eq_true] at hh
        have HH := Lib.hid hh
        have hall : Hid (Below W.heap.size W w1) := Lib.hid (by have hy := HBW.out; exact (by repeat (first | (with_reducible first | exact Below.refl _ _ | refine Below.drew ?_ | refine below_drewN ?_ _) | ((with_reducible first | refine Lc ?_ ?_ _ | refine Ls ?_ ?_ _ | refine Lv (by assumption) ?_ ?_); · first | exact Nat.le_refl _ | omega | (simp; done) | (simp; omega) | (simp at *; omega)))))
        go_wp2_with fail
        go_roundw
        case rel => exact ⟨k + 1, by omega, by go_num, Lib.hid (idx_no hlt h0.out HH.out), hall.out⟩
        case measure => simp [intOf]; omega
    · have hk' : k = n := by omega
      go_wp2_with fail
      go_ret
      exact ⟨by rw [idx_end (by have h := h0.out; rwa [hk'] at h)]; rfl, HBW.out⟩

set_option maxRecDepth 100000 in
set_option maxHeartbeats 1000000 in
theorem has_bn (A : Option Addr) (n c : Nat) (P : Nat → Bn) (W : World) (hr : BnRow W W.heap.size A n P) (hn : n ≤ 1000) (h cb : Nat) (f : Nat → Bool)
    (hcf : ∀ args w, (callFunc h args).run Try.prog w = .ok (.enter h args) w)
    (hf : ∀ k, k < n → ∀ w, Below W.heap.size W w → Calls Try.prog h #[bnV (P k), .pointer (some ⟨cb, 0, none⟩)] w fun e w' => e = .returned (.bool (f k)) ∧ Below w.heap.size w w') :
    Calls Try.prog 87 #[.slice A n c, .func (.func h) #[] #[.pointer (some ⟨cb, 0, none⟩)]] W fun e w' => e = .returned (.bool (decide (0 ≤ idxFrom f n 0))) ∧ Below W.heap.size W w' := by
  have H := Lib.hid (idx_bn A n c P W hr hn h cb f hcf hf)
  clear hr hf hcf
  go_enter Try.func87, Try.ntmps87
  go_wp2_with fail
  refine H.out.mono ?_
  rintro e w1 ⟨rfl, hb1⟩
  go_wp2_with fail
  go_ret
  exact ⟨rfl, hb1⟩


set_option maxRecDepth 100000 in
set_option maxHeartbeats 1000000 in
theorem idx_wg (A : Option Addr) (n c : Nat) (P : Nat → Wg) (W : World) (hr : WgRow W W.heap.size A n P) (hn : n ≤ 1000) (h cb : Nat) (f : Nat → Bool)
    (hcf : ∀ args w, (callFunc h args).run Try.prog w = .ok (.enter h args) w)
    (hf : ∀ k, k < n → ∀ w, Below W.heap.size W w → Calls Try.prog h #[wgV (P k), .pointer (some ⟨cb, 0, none⟩)] w fun e w' => e = .returned (.bool (f k)) ∧ Below w.heap.size w w') :
    Calls Try.prog 104 #[.slice A n c, .func (.func h) #[] #[.pointer (some ⟨cb, 0, none⟩)]] W fun e w' => e = .returned (.int .i64 (idxFrom f n 0)) ∧ Below W.heap.size W w' := by
  have HR := Lib.hid hr
  have HF := Lib.hid hf
  clear hr hf
  go_enter Try.func104, Try.ntmps104
  go_wp2_with fail
  go_loopw [8] (fun i wr => ∃ k : Nat, k ≤ n ∧ i = .int .i64 k ∧ Hid (idxFrom f n 0 = idxFrom f (n - k) k) ∧ Below W.heap.size W wr) (fun i _ => n - (intOf i).toNat)
  case atStart => exact ⟨0, Nat.zero_le _, rfl, Lib.hid rfl, Below.refl _ _⟩
  case round =>
    obtain ⟨k, hk, rfl, h0, hbw⟩ := hrel
    have HBW := Lib.hid hbw
    clear hbw
    by_cases hlt : k < n
    · obtain ⟨b, o, rfl, hb', c0, c1, c2, c3⟩ := HR.out.below HBW.out k hlt
      have hcall := Lib.hid (HF.out k hlt wr HBW.out)
      go_wp2_with fail
      refine hcall.out.mono ?_
      rintro e w1 ⟨rfl, hb1⟩
      have hsz := HBW.out.size
      by_cases hh : f k = true
      · have HH := Lib.hid hh
        have hy := HBW.out
        go_wp2_with fail
        go_ret
        exact ⟨by rw [idx_yes hlt h0.out HH.out]; rfl, (by repeat (first | (with_reducible first | exact Below.refl _ _ | refine Below.drew ?_ | refine below_drewN ?_ _) | ((with_reducible first | refine Lc ?_ ?_ _ | refine Ls ?_ ?_ _ | refine Lv (by assumption) ?_ ?_); · first | exact Nat.le_refl _ | omega | (simp; done) | (simp; omega) | (simp at *; omega))))⟩
      · simp only [Bool.not_eq_true] at hh
        have HH := Lib.hid hh
        have hall : Hid (Below W.heap.size W w1) := Lib.hid (by have hy := HBW.out; exact (by repeat (first | (with_reducible first | exact Below.refl _ _ | refine Below.drew ?_ | refine below_drewN ?_ _) | ((with_reducible first | refine Lc ?_ ?_ _ | refine Ls ?_ ?_ _ | refine Lv (by assumption) ?_ ?_); · first | exact Nat.le_refl _ | omega | (simp; done) | (simp; omega) | (simp at *; omega)))))
        go_wp2_with fail
        go_roundw
        case rel => exact ⟨k + 1, by omega, by go_num, Lib.hid (idx_no hlt h0.out HH.out), hall.out⟩
        case measure => simp [intOf]; omega
    · have hk' : k = n := by omega
      go_wp2_with fail
      go_ret
      exact ⟨by rw [idx_end (by have h := h0.out; rwa [hk'] at h)]; rfl, HBW.out⟩

set_option maxRecDepth 100000 in
set_option maxHeartbeats 1000000 in
theorem has_wg (A : Option Addr) (n c : Nat) (P : Nat → Wg) (W : World) (hr : WgRow W W.heap.size A n P) (hn : n ≤ 1000) (h cb : Nat) (f : Nat → Bool)
    (hcf : ∀ args w, (callFunc h args).run Try.prog w = .ok (.enter h args) w)
    (hf : ∀ k, k < n → ∀ w, Below W.heap.size W w → Calls Try.prog h #[wgV (P k), .pointer (some ⟨cb, 0, none⟩)] w fun e w' => e = .returned (.bool (f k)) ∧ Below w.heap.size w w') :
    Calls Try.prog 91 #[.slice A n c, .func (.func h) #[] #[.pointer (some ⟨cb, 0, none⟩)]] W fun e w' => e = .returned (.bool (decide (0 ≤ idxFrom f n 0))) ∧ Below W.heap.size W w' := by
  have H := Lib.hid (idx_wg A n c P W hr hn h cb f hcf hf)
  clear hr hf hcf
  go_enter Try.func91, Try.ntmps91
  go_wp2_with fail
  refine H.out.mono ?_
  rintro e w1 ⟨rfl, hb1⟩
  go_wp2_with fail
  go_ret
  exact ⟨rfl, hb1⟩


set_option maxRecDepth 100000 in
set_option maxHeartbeats 1000000 in
theorem idx_fc (A : Option Addr) (n c : Nat) (P : Nat → Fc) (W : World) (hr : FcRow W W.heap.size A n P) (hn : n ≤ 1000) (h cb : Nat) (f : Nat → Bool)
    (hcf : ∀ args w, (callFunc h args).run Try.prog w = .ok (.enter h args) w)
    (hf : ∀ k, k < n → ∀ w, Below W.heap.size W w → Calls Try.prog h #[fcV (P k), .pointer (some ⟨cb, 0, none⟩)] w fun e w' => e = .returned (.bool (f k)) ∧ Below w.heap.size w w') :
    Calls Try.prog 106 #[.slice A n c, .func (.func h) #[] #[.pointer (some ⟨cb, 0, none⟩)]] W fun e w' => e = .returned (.int .i64 (idxFrom f n 0)) ∧ Below W.heap.size W w' := by
  have HR := Lib.hid hr
  have HF := Lib.hid hf
  clear hr hf
  go_enter Try.func106, Try.ntmps106
  go_wp2_with fail
  go_loopw [8] (fun i wr => ∃ k : Nat, k ≤ n ∧ i = .int .i64 k ∧ Hid (idxFrom f n 0 = idxFrom f (n - k) k) ∧ Below W.heap.size W wr) (fun i _ => n - (intOf i).toNat)
  case atStart => exact ⟨0, Nat.zero_le _, rfl, Lib.hid rfl, Below.refl _ _⟩
  case round =>
    obtain ⟨k, hk, rfl, h0, hbw⟩ := hrel
    have HBW := Lib.hid hbw
    clear hbw
    by_cases hlt : k < n
    · obtain ⟨b, o, rfl, hb', c0, c1, c2⟩ := HR.out.below HBW.out k hlt
      have hcall := Lib.hid (HF.out k hlt wr HBW.out)
      go_wp2_with fail
      refine hcall.out.mono ?_
      rintro e w1 ⟨rfl, hb1⟩
      have hsz := HBW.out.size
      by_cases hh : f k = true
      · have HH := Lib.hid hh
        have hy := HBW.out
        go_wp2_with fail
        go_ret
        exact ⟨by rw [idx_yes hlt h0.out HH.out]; rfl, (by repeat (first | (with_reducible first | exact Below.refl _ _ | refine Below.drew ?_ | refine below_drewN ?_ _) | ((with_reducible first | refine Lc ?_ ?_ _ | refine Ls ?_ ?_ _ | refine Lv (by assumption) ?_ ?_); · first | exact Nat.le_refl _ | omega | (simp; done) | (simp; omega) | (simp at *; omega))))⟩
      · simp only [Bool.not_eq_true] at hh
        have HH := Lib.hid hh
        have hall : Hid (Below W.heap.size W w1) := Lib.hid (by have hy := HBW.out; exact (by repeat (first | (with_reducible first | exact Below.refl _ _ | refine Below.drew ?_ | refine below_drewN ?_ _) | ((with_reducible first | refine Lc ?_ ?_ _ | refine Ls ?_ ?_ _ | refine Lv (by assumption) ?_ ?_); · first | exact Nat.le_refl _ | omega | (simp; done) | (simp; omega) | (simp at *; omega)))))
        go_wp2_with fail
        go_roundw
        case rel => exact ⟨k + 1, by omega, by go_num, Lib.hid (idx_no hlt h0.out HH.out), hall.out⟩
        case measure => simp [intOf]; omega
    · have hk' : k = n := by omega
      go_wp2_with fail
      go_ret
      exact ⟨by rw [idx_end (by have h := h0.out; rwa [hk'] at h)]; rfl, HBW.out⟩

set_option maxRecDepth 100000 in
set_option maxHeartbeats 1000000 in
theorem has_fc (A : Option Addr) (n c : Nat) (P : Nat → Fc) (W : World) (hr : FcRow W W.heap.size A n P) (hn : n ≤ 1000) (h cb : Nat) (f : Nat → Bool)
    (hcf : ∀ args w, (callFunc h args).run Try.prog w = .ok (.enter h args) w)
    (hf : ∀ k, k < n → ∀ w, Below W.heap.size W w → Calls Try.prog h #[fcV (P k), .pointer (some ⟨cb, 0, none⟩)] w fun e w' => e = .returned (.bool (f k)) ∧ Below w.heap.size w w') :
    Calls Try.prog 98 #[.slice A n c, .func (.func h) #[] #[.pointer (some ⟨cb, 0, none⟩)]] W fun e w' => e = .returned (.bool (decide (0 ≤ idxFrom f n 0))) ∧ Below W.heap.size W w' := by
  have H := Lib.hid (idx_fc A n c P W hr hn h cb f hcf hf)
  clear hr hf hcf
  go_enter Try.func98, Try.ntmps98
  go_wp2_with fail
  refine H.out.mono ?_
  rintro e w1 ⟨rfl, hb1⟩
  go_wp2_with fail
  go_ret
  exact ⟨rfl, hb1⟩


set_option maxRecDepth 100000 in
set_option maxHeartbeats 1000000 in
theorem idx_sp (A : Option Addr) (n c : Nat) (P : Nat → Sp) (W : World) (hr : SpRow W W.heap.size A n P) (hn : n ≤ 1000) (h cb : Nat) (f : Nat → Bool)
    (hcf : ∀ args w, (callFunc h args).run Try.prog w = .ok (.enter h args) w)
    (hf : ∀ k, k < n → ∀ w, Below W.heap.size W w → Calls Try.prog h #[spV (P k), .pointer (some ⟨cb, 0, none⟩)] w fun e w' => e = .returned (.bool (f k)) ∧ Below w.heap.size w w') :
    Calls Try.prog 107 #[.slice A n c, .func (.func h) #[] #[.pointer (some ⟨cb, 0, none⟩)]] W fun e w' => e = .returned (.int .i64 (idxFrom f n 0)) ∧ Below W.heap.size W w' := by
  have HR := Lib.hid hr
  have HF := Lib.hid hf
  clear hr hf
  go_enter Try.func107, Try.ntmps107
  go_wp2_with fail
  go_loopw [8] (fun i wr => ∃ k : Nat, k ≤ n ∧ i = .int .i64 k ∧ Hid (idxFrom f n 0 = idxFrom f (n - k) k) ∧ Below W.heap.size W wr) (fun i _ => n - (intOf i).toNat)
  case atStart => exact ⟨0, Nat.zero_le _, rfl, Lib.hid rfl, Below.refl _ _⟩
  case round =>
    obtain ⟨k, hk, rfl, h0, hbw⟩ := hrel
    have HBW := Lib.hid hbw
    clear hbw
    by_cases hlt : k < n
    · obtain ⟨b, o, rfl, hb', c0, c1⟩ := HR.out.below HBW.out k hlt
      have hcall := Lib.hid (HF.out k hlt wr HBW.out)
      go_wp2_with fail
      refine hcall.out.mono ?_
      rintro e w1 ⟨rfl, hb1⟩
      have hsz := HBW.out.size
      by_cases hh : f k = true
      · have HH := Lib.hid hh
        have hy := HBW.out
        go_wp2_with fail
        go_ret
        exact ⟨by rw [idx_yes hlt h0.out HH.out]; rfl, (by repeat (first | (with_reducible first | exact Below.refl _ _ | refine Below.drew ?_ | refine below_drewN ?_ _) | ((with_reducible first | refine Lc ?_ ?_ _ | refine Ls ?_ ?_ _ | refine Lv (by assumption) ?_ ?_); · first | exact Nat.le_refl _ | omega | (simp; done) | (simp; omega) | (simp at *; omega))))⟩
      · simp only [Bool.not_eq_true] at hh
        have HH := Lib.hid hh
        have hall : Hid (Below W.heap.size W w1) := Lib.hid (by have hy := HBW.out; exact (by repeat (first | (with_reducible first | exact Below.refl _ _ | refine Below.drew ?_ | refine below_drewN ?_ _) | ((with_reducible first | refine Lc ?_ ?_ _ | refine Ls ?_ ?_ _ | refine Lv (by assumption) ?_ ?_); · first | exact Nat.le_refl _ | omega | (simp; done) | (simp; omega) | (simp at *; omega)))))
        go_wp2_with fail
        go_roundw
        case rel => exact ⟨k + 1, by omega, by go_num, Lib.hid (idx_no hlt h0.out HH.out), hall.out⟩
        case measure => simp [intOf]; omega
    · have hk' : k = n := by omega
      go_wp2_with fail
      go_ret
      exact ⟨by rw [idx_end (by have h := h0.out; rwa [hk'] at h)]; rfl, HBW.out⟩

set_option maxRecDepth 100000 in
set_option maxHeartbeats 1000000 in
theorem has_sp (A : Option Addr) (n c : Nat) (P : Nat → Sp) (W : World) (hr : SpRow W W.heap.size A n P) (hn : n ≤ 1000) (h cb : Nat) (f : Nat → Bool)
    (hcf : ∀ args w, (callFunc h args).run Try.prog w = .ok (.enter h args) w)
    (hf : ∀ k, k < n → ∀ w, Below W.heap.size W w → Calls Try.prog h #[spV (P k), .pointer (some ⟨cb, 0, none⟩)] w fun e w' => e = .returned (.bool (f k)) ∧ Below w.heap.size w w') :
    Calls Try.prog 102 #[.slice A n c, .func (.func h) #[] #[.pointer (some ⟨cb, 0, none⟩)]] W fun e w' => e = .returned (.bool (decide (0 ≤ idxFrom f n 0))) ∧ Below W.heap.size W w' := by
  have H := Lib.hid (idx_sp A n c P W hr hn h cb f hcf hf)
  clear hr hf hcf
  go_enter Try.func102, Try.ntmps102
  go_wp2_with fail
  refine H.out.mono ?_
  rintro e w1 ⟨rfl, hb1⟩
  go_wp2_with fail
  go_ret
  exact ⟨rfl, hb1⟩


set_option maxRecDepth 100000 in
set_option maxHeartbeats 1000000 in
theorem idx_kd (A : Option Addr) (n c : Nat) (P : Nat → Int) (W : World) (hr : IntRow W W.heap.size A n P) (hn : n ≤ 1000) (h cb : Nat) (f : Nat → Bool)
    (hcf : ∀ args w, (callFunc h args).run Try.prog w = .ok (.enter h args) w)
    (hf : ∀ k, k < n → ∀ w, Below W.heap.size W w → Calls Try.prog h #[.int .i64 (P k), .pointer (some ⟨cb, 0, none⟩)] w fun e w' => e = .returned (.bool (f k)) ∧ Below w.heap.size w w') :
    Calls Try.prog 105 #[.slice A n c, .func (.func h) #[] #[.pointer (some ⟨cb, 0, none⟩)]] W fun e w' => e = .returned (.int .i64 (idxFrom f n 0)) ∧ Below W.heap.size W w' := by
  have HR := Lib.hid hr
  have HF := Lib.hid hf
  clear hr hf
  go_enter Try.func105, Try.ntmps105
  go_wp2_with fail
  go_loopw [8] (fun i wr => ∃ k : Nat, k ≤ n ∧ i = .int .i64 k ∧ Hid (idxFrom f n 0 = idxFrom f (n - k) k) ∧ Below W.heap.size W wr) (fun i _ => n - (intOf i).toNat)
  case atStart => exact ⟨0, Nat.zero_le _, rfl, Lib.hid rfl, Below.refl _ _⟩
  case round =>
    obtain ⟨k, hk, rfl, h0, hbw⟩ := hrel
    have HBW := Lib.hid hbw
    clear hbw
    by_cases hlt : k < n
    · obtain ⟨b, o, rfl, hb', c0⟩ := HR.out.below HBW.out k hlt
      have hcall := Lib.hid (HF.out k hlt wr HBW.out)
      go_wp2_with fail
      refine hcall.out.mono ?_
      rintro e w1 ⟨rfl, hb1⟩
      have hsz := HBW.out.size
      by_cases hh : f k = true
      · have HH := Lib.hid hh
        have hy := HBW.out
        go_wp2_with fail
        go_ret
        exact ⟨by rw [idx_yes hlt h0.out HH.out]; rfl, (by repeat (first | (with_reducible first | exact Below.refl _ _ | refine Below.drew ?_ | refine below_drewN ?_ _) | ((with_reducible first | refine Lc ?_ ?_ _ | refine Ls ?_ ?_ _ | refine Lv (by assumption) ?_ ?_); · first | exact Nat.le_refl _ | omega | (simp; done) | (simp; omega) | (simp at *; omega))))⟩
      · simp only [Bool.not_eq_true] at hh
        have HH := Lib.hid hh
        have hall : Hid (Below W.heap.size W w1) := Lib.hid (by have hy := HBW.out; exact (by repeat (first | (with_reducible first | exact Below.refl _ _ | refine Below.drew ?_ | refine below_drewN ?_ _) | ((with_reducible first | refine Lc ?_ ?_ _ | refine Ls ?_ ?_ _ | refine Lv (by assumption) ?_ ?_); · first | exact Nat.le_refl _ | omega | (simp; done) | (simp; omega) | (simp at *; omega)))))
        go_wp2_with fail
        go_roundw
        case rel => exact ⟨k + 1, by omega, by go_num, Lib.hid (idx_no hlt h0.out HH.out), hall.out⟩
        case measure => simp [intOf]; omega
    · have hk' : k = n := by omega
      go_wp2_with fail
      go_ret
      exact ⟨by rw [idx_end (by have h := h0.out; rwa [hk'] at h)]; rfl, HBW.out⟩

set_option maxRecDepth 100000 in
set_option maxHeartbeats 1000000 in
theorem has_kd (A : Option Addr) (n c : Nat) (P : Nat → Int) (W : World) (hr : IntRow W W.heap.size A n P) (hn : n ≤ 1000) (h cb : Nat) (f : Nat → Bool)
    (hcf : ∀ args w, (callFunc h args).run Try.prog w = .ok (.enter h args) w)
    (hf : ∀ k, k < n → ∀ w, Below W.heap.size W w → Calls Try.prog h #[.int .i64 (P k), .pointer (some ⟨cb, 0, none⟩)] w fun e w' => e = .returned (.bool (f k)) ∧ Below w.heap.size w w') :
    Calls Try.prog 93 #[.slice A n c, .func (.func h) #[] #[.pointer (some ⟨cb, 0, none⟩)]] W fun e w' => e = .returned (.bool (decide (0 ≤ idxFrom f n 0))) ∧ Below W.heap.size W w' := by
  have H := Lib.hid (idx_kd A n c P W hr hn h cb f hcf hf)
  clear hr hf hcf
  go_enter Try.func93, Try.ntmps93
  go_wp2_with fail
  refine H.out.mono ?_
  rintro e w1 ⟨rfl, hb1⟩
  go_wp2_with fail
  go_ret
  exact ⟨rfl, hb1⟩


set_option maxRecDepth 100000 in
set_option maxHeartbeats 1000000 in
theorem idx_int (A : Option Addr) (n c : Nat) (P : Nat → Int) (W : World) (hr : IntRow W W.heap.size A n P) (hn : n ≤ 1000) (h cb : Nat) (f : Nat → Bool)
    (hcf : ∀ args w, (callFunc h args).run Try.prog w = .ok (.enter h args) w)
    (hf : ∀ k, k < n → ∀ w, Below W.heap.size W w → Calls Try.prog h #[.int .i64 (P k), .pointer (some ⟨cb, 0, none⟩)] w fun e w' => e = .returned (.bool (f k)) ∧ Below w.heap.size w w') :
    Calls Try.prog 96 #[.slice A n c, .func (.func h) #[] #[.pointer (some ⟨cb, 0, none⟩)]] W fun e w' => e = .returned (.int .i64 (idxFrom f n 0)) ∧ Below W.heap.size W w' := by
  have HR := Lib.hid hr
  have HF := Lib.hid hf
  clear hr hf
  go_enter Try.func96, Try.ntmps96
  go_wp2_with fail
  go_loopw [8] (fun i wr => ∃ k : Nat, k ≤ n ∧ i = .int .i64 k ∧ Hid (idxFrom f n 0 = idxFrom f (n - k) k) ∧ Below W.heap.size W wr) (fun i _ => n - (intOf i).toNat)
  case atStart => exact ⟨0, Nat.zero_le _, rfl, Lib.hid rfl, Below.refl _ _⟩
  case round =>
    obtain ⟨k, hk, rfl, h0, hbw⟩ := hrel
    have HBW := Lib.hid hbw
    clear hbw
    by_cases hlt : k < n
    · obtain ⟨b, o, rfl, hb', c0⟩ := HR.out.below HBW.out k hlt
      have hcall := Lib.hid (HF.out k hlt wr HBW.out)
      go_wp2_with fail
      refine hcall.out.mono ?_
      rintro e w1 ⟨rfl, hb1⟩
      have hsz := HBW.out.size
      by_cases hh : f k = true
      · have HH := Lib.hid hh
        have hy := HBW.out
        go_wp2_with fail
        go_ret
        exact ⟨by rw [idx_yes hlt h0.out HH.out]; rfl, (by repeat (first | (with_reducible first | exact Below.refl _ _ | refine Below.drew ?_ | refine below_drewN ?_ _) | ((with_reducible first | refine Lc ?_ ?_ _ | refine Ls ?_ ?_ _ | refine Lv (by assumption) ?_ ?_); · first | exact Nat.le_refl _ | omega | (simp; done) | (simp; omega) | (simp at *; omega))))⟩
      · simp only [Bool.not_eq_true] at hh
        have HH := Lib.hid hh
        have hall : Hid (Below W.heap.size W w1) := Lib.hid (by have hy := HBW.out; exact (by repeat (first | (with_reducible first | exact Below.refl _ _ | refine Below.drew ?_ | refine below_drewN ?_ _) | ((with_reducible first | refine Lc ?_ ?_ _ | refine Ls ?_ ?_ _ | refine Lv (by assumption) ?_ ?_); · first | exact Nat.le_refl _ | omega | (simp; done) | (simp; omega) | (simp at *; omega)))))
        go_wp2_with fail
        go_roundw
        case rel => exact ⟨k + 1, by omega, by go_num, Lib.hid (idx_no hlt h0.out HH.out), hall.out⟩
        case measure => simp [intOf]; omega
    · have hk' : k = n := by omega
      go_wp2_with fail
      go_ret
      exact ⟨by rw [idx_end (by have h := h0.out; rwa [hk'] at h)]; rfl, HBW.out⟩

set_option maxRecDepth 100000 in
set_option maxHeartbeats 1000000 in
theorem has_int (A : Option Addr) (n c : Nat) (P : Nat → Int) (W : World) (hr : IntRow W W.heap.size A n P) (hn : n ≤ 1000) (h cb : Nat) (f : Nat → Bool)
    (hcf : ∀ args w, (callFunc h args).run Try.prog w = .ok (.enter h args) w)
    (hf : ∀ k, k < n → ∀ w, Below W.heap.size W w → Calls Try.prog h #[.int .i64 (P k), .pointer (some ⟨cb, 0, none⟩)] w fun e w' => e = .returned (.bool (f k)) ∧ Below w.heap.size w w') :
    Calls Try.prog 80 #[.slice A n c, .func (.func h) #[] #[.pointer (some ⟨cb, 0, none⟩)]] W fun e w' => e = .returned (.bool (decide (0 ≤ idxFrom f n 0))) ∧ Below W.heap.size W w' := by
  have H := Lib.hid (idx_int A n c P W hr hn h cb f hcf hf)
  clear hr hf hcf
  go_enter Try.func80, Try.ntmps80
  go_wp2_with fail
  refine H.out.mono ?_
  rintro e w1 ⟨rfl, hb1⟩
  go_wp2_with fail
  go_ret
  exact ⟨rfl, hb1⟩


set_option maxRecDepth 100000 in
set_option maxHeartbeats 1000000 in
/-- the closure of bin.every -/
theorem not_bnC (g cb xb : Nat) (p : Bn) (f : Bool) (w : World) (hc : w.cell? ⟨cb, 0, none⟩ = some (.func (.func g) #[] #[.pointer (some ⟨xb, 0, none⟩)])) (hcf : ∀ args w, (callFunc g args).run Try.prog w = .ok (.enter g args) w)
    (hg : ∀ w', Below w.heap.size w w' → Calls Try.prog g #[bnV p, .pointer (some ⟨xb, 0, none⟩)] w' fun e w'' => e = .returned (.bool f) ∧ Below w'.heap.size w' w'') :
    Calls Try.prog 88 #[bnV p, .pointer (some ⟨cb, 0, none⟩)] w fun e w' => e = .returned (.bool (!f)) ∧ Below w.heap.size w w' := by
  have HG := Lib.hid hg
  have hl : cb < w.heap.size := World.block_lt_of_cell? w _ hc
  clear hg
  go_enter Try.func88, Try.ntmps88
  go_wp2_with fail
  refine (HG.out _ (by repeat (first | (with_reducible first | exact Below.refl _ _ | refine Below.drew ?_ | refine below_drewN ?_ _) | ((with_reducible first | refine Lc ?_ ?_ _ | refine Ls ?_ ?_ _ | refine Lv (by assumption) ?_ ?_); · first | exact Nat.le_refl _ | omega | (simp; done) | (simp; omega) | (simp at *; omega))))).mono ?_
  rintro e w1 ⟨rfl, hb1⟩
  go_wp2_with fail
  go_ret
  exact ⟨rfl, (by repeat (first | (with_reducible first | exact Below.refl _ _ | refine Below.drew ?_ | refine below_drewN ?_ _) | ((with_reducible first | refine Lc ?_ ?_ _ | refine Ls ?_ ?_ _ | refine Lv (by assumption) ?_ ?_); · first | exact Nat.le_refl _ | omega | (simp; done) | (simp; omega) | (simp at *; omega))))⟩

set_option maxRecDepth 100000 in
set_option maxHeartbeats 1000000 in
/-- bin.every -/
theorem every_bnC (A : Option Addr) (n c : Nat) (P : Nat → Bn) (W : World) (hr : BnRow W W.heap.size A n P) (hn : n ≤ 1000) (g xb : Nat) (f : Nat → Bool)
    (hcf : ∀ args w, (callFunc g args).run Try.prog w = .ok (.enter g args) w)
    (hg : ∀ k, k < n → ∀ w, Below W.heap.size W w → Calls Try.prog g #[bnV (P k), .pointer (some ⟨xb, 0, none⟩)] w fun e w' => e = .returned (.bool (f k)) ∧ Below w.heap.size w w') :
    Calls Try.prog 66 #[.slice A n c, .func (.func g) #[] #[.pointer (some ⟨xb, 0, none⟩)]] W fun e w' => e = .returned (.bool (allN f n)) ∧ Below W.heap.size W w' := by
  have hb0 : Below W.heap.size W (W.alloc (.cells #[.func (.func g) #[] #[.pointer (some ⟨xb, 0, none⟩)]] 132)) := (Below.refl _ _).alloc (Nat.le_refl _) _
  have H := Lib.hid (has_bn A n c P (W.alloc (.cells #[.func (.func g) #[] #[.pointer (some ⟨xb, 0, none⟩)]] 132)) ((hr.below hb0).mono (by simp)) hn 88 W.heap.size (fun k => !f k) (enters_of Try.func88 (by kernel_rfl) rfl)
    (fun k hk w hb => not_bnC g W.heap.size xb (P k) (f k) w ((hb.cell (p := ⟨W.heap.size, 0, none⟩) (by simp)).trans (by simp)) hcf (fun w' hb' => hg k hk w' (hb0.trans ((hb.mono (by simp)).trans (hb'.mono (by have := hb.size; simp at this; omega)))))))
  have HE := Lib.hid (idx_every f n)
  clear hr hg hcf hb0
  go_enter Try.func66, Try.ntmps66
  go_wp2_with fail
  refine H.out.mono ?_
  rintro e w1 ⟨rfl, hb1⟩
  go_wp2_with fail
  go_ret
  exact ⟨by rw [← HE.out]; rfl, (by repeat (first | (with_reducible first | exact Below.refl _ _ | refine Below.drew ?_ | refine below_drewN ?_ _) | ((with_reducible first | refine Lc ?_ ?_ _ | refine Ls ?_ ?_ _ | refine Lv (by assumption) ?_ ?_); · first | exact Nat.le_refl _ | omega | (simp; done) | (simp; omega) | (simp at *; omega))))⟩

set_option maxRecDepth 100000 in
set_option maxHeartbeats 1000000 in
/-- the closure of bin.every -/
theorem not_wg (g cb : Nat) (p : Wg) (f : Bool) (w : World) (hc : w.cell? ⟨cb, 0, none⟩ = some (.func (.func g) #[] #[])) (hcf : ∀ args w, (callFunc g args).run Try.prog w = .ok (.enter g args) w)
    (hg : ∀ w', Below w.heap.size w w' → Calls Try.prog g #[wgV p] w' fun e w'' => e = .returned (.bool f) ∧ Below w'.heap.size w' w'') :
    Calls Try.prog 92 #[wgV p, .pointer (some ⟨cb, 0, none⟩)] w fun e w' => e = .returned (.bool (!f)) ∧ Below w.heap.size w w' := by
  have HG := Lib.hid hg
  have hl : cb < w.heap.size := World.block_lt_of_cell? w _ hc
  clear hg
  go_enter Try.func92, Try.ntmps92
  go_wp2_with fail
  refine (HG.out _ (by repeat (first | (with_reducible first | exact Below.refl _ _ | refine Below.drew ?_ | refine below_drewN ?_ _) | ((with_reducible first | refine Lc ?_ ?_ _ | refine Ls ?_ ?_ _ | refine Lv (by assumption) ?_ ?_); · first | exact Nat.le_refl _ | omega | (simp; done) | (simp; omega) | (simp at *; omega))))).mono ?_
  rintro e w1 ⟨rfl, hb1⟩
  go_wp2_with fail
  go_ret
  exact ⟨rfl, (by repeat (first | (with_reducible first | exact Below.refl _ _ | refine Below.drew ?_ | refine below_drewN ?_ _) | ((with_reducible first | refine Lc ?_ ?_ _ | refine Ls ?_ ?_ _ | refine Lv (by assumption) ?_ ?_); · first | exact Nat.le_refl _ | omega | (simp; done) | (simp; omega) | (simp at *; omega))))⟩

set_option maxRecDepth 100000 in
set_option maxHeartbeats 1000000 in
/-- bin.every -/
theorem every_wg (A : Option Addr) (n c : Nat) (P : Nat → Wg) (W : World) (hr : WgRow W W.heap.size A n P) (hn : n ≤ 1000) (g : Nat) (f : Nat → Bool)
    (hcf : ∀ args w, (callFunc g args).run Try.prog w = .ok (.enter g args) w)
    (hg : ∀ k, k < n → ∀ w, Below W.heap.size W w → Calls Try.prog g #[wgV (P k)] w fun e w' => e = .returned (.bool (f k)) ∧ Below w.heap.size w w') :
    Calls Try.prog 69 #[.slice A n c, .func (.func g) #[] #[]] W fun e w' => e = .returned (.bool (allN f n)) ∧ Below W.heap.size W w' := by
  have hb0 : Below W.heap.size W (W.alloc (.cells #[.func (.func g) #[] #[]] 134)) := (Below.refl _ _).alloc (Nat.le_refl _) _
  have H := Lib.hid (has_wg A n c P (W.alloc (.cells #[.func (.func g) #[] #[]] 134)) ((hr.below hb0).mono (by simp)) hn 92 W.heap.size (fun k => !f k) (enters_of Try.func92 (by kernel_rfl) rfl)
    (fun k hk w hb => not_wg g W.heap.size (P k) (f k) w ((hb.cell (p := ⟨W.heap.size, 0, none⟩) (by simp)).trans (by simp)) hcf (fun w' hb' => hg k hk w' (hb0.trans ((hb.mono (by simp)).trans (hb'.mono (by have := hb.size; simp at this; omega)))))))
  have HE := Lib.hid (idx_every f n)
  clear hr hg hcf hb0
  go_enter Try.func69, Try.ntmps69
  go_wp2_with fail
  refine H.out.mono ?_
  rintro e w1 ⟨rfl, hb1⟩
  go_wp2_with fail
  go_ret
  exact ⟨by rw [← HE.out]; rfl, (by repeat (first | (with_reducible first | exact Below.refl _ _ | refine Below.drew ?_ | refine below_drewN ?_ _) | ((with_reducible first | refine Lc ?_ ?_ _ | refine Ls ?_ ?_ _ | refine Lv (by assumption) ?_ ?_); · first | exact Nat.le_refl _ | omega | (simp; done) | (simp; omega) | (simp at *; omega))))⟩

set_option maxRecDepth 100000 in
set_option maxHeartbeats 1000000 in
/-- the closure of bin.every -/
theorem not_wgC (g cb xb : Nat) (p : Wg) (f : Bool) (w : World) (hc : w.cell? ⟨cb, 0, none⟩ = some (.func (.func g) #[] #[.pointer (some ⟨xb, 0, none⟩)])) (hcf : ∀ args w, (callFunc g args).run Try.prog w = .ok (.enter g args) w)
    (hg : ∀ w', Below w.heap.size w w' → Calls Try.prog g #[wgV p, .pointer (some ⟨xb, 0, none⟩)] w' fun e w'' => e = .returned (.bool f) ∧ Below w'.heap.size w' w'') :
    Calls Try.prog 92 #[wgV p, .pointer (some ⟨cb, 0, none⟩)] w fun e w' => e = .returned (.bool (!f)) ∧ Below w.heap.size w w' := by
  have HG := Lib.hid hg
  have hl : cb < w.heap.size := World.block_lt_of_cell? w _ hc
  clear hg
  go_enter Try.func92, Try.ntmps92
  go_wp2_with fail
  refine (HG.out _ (by repeat (first | (with_reducible first | exact Below.refl _ _ | refine Below.drew ?_ | refine below_drewN ?_ _) | ((with_reducible first | refine Lc ?_ ?_ _ | refine Ls ?_ ?_ _ | refine Lv (by assumption) ?_ ?_); · first | exact Nat.le_refl _ | omega | (simp; done) | (simp; omega) | (simp at *; omega))))).mono ?_
  rintro e w1 ⟨rfl, hb1⟩
  go_wp2_with fail
  go_ret
  exact ⟨rfl, (by repeat (first | (with_reducible first | exact Below.refl _ _ | refine Below.drew ?_ | refine below_drewN ?_ _) | ((with_reducible first | refine Lc ?_ ?_ _ | refine Ls ?_ ?_ _ | refine Lv (by assumption) ?_ ?_); · first | exact Nat.le_refl _ | omega | (simp; done) | (simp; omega) | (simp at *; omega))))⟩

set_option maxRecDepth 100000 in
set_option maxHeartbeats 1000000 in
/-- bin.every -/
theorem every_wgC (A : Option Addr) (n c : Nat) (P : Nat → Wg) (W : World) (hr : WgRow W W.heap.size A n P) (hn : n ≤ 1000) (g xb : Nat) (f : Nat → Bool)
    (hcf : ∀ args w, (callFunc g args).run Try.prog w = .ok (.enter g args) w)
    (hg : ∀ k, k < n → ∀ w, Below W.heap.size W w → Calls Try.prog g #[wgV (P k), .pointer (some ⟨xb, 0, none⟩)] w fun e w' => e = .returned (.bool (f k)) ∧ Below w.heap.size w w') :
    Calls Try.prog 69 #[.slice A n c, .func (.func g) #[] #[.pointer (some ⟨xb, 0, none⟩)]] W fun e w' => e = .returned (.bool (allN f n)) ∧ Below W.heap.size W w' := by
  have hb0 : Below W.heap.size W (W.alloc (.cells #[.func (.func g) #[] #[.pointer (some ⟨xb, 0, none⟩)]] 134)) := (Below.refl _ _).alloc (Nat.le_refl _) _
  have H := Lib.hid (has_wg A n c P (W.alloc (.cells #[.func (.func g) #[] #[.pointer (some ⟨xb, 0, none⟩)]] 134)) ((hr.below hb0).mono (by simp)) hn 92 W.heap.size (fun k => !f k) (enters_of Try.func92 (by kernel_rfl) rfl)
    (fun k hk w hb => not_wgC g W.heap.size xb (P k) (f k) w ((hb.cell (p := ⟨W.heap.size, 0, none⟩) (by simp)).trans (by simp)) hcf (fun w' hb' => hg k hk w' (hb0.trans ((hb.mono (by simp)).trans (hb'.mono (by have := hb.size; simp at this; omega)))))))
  have HE := Lib.hid (idx_every f n)
  clear hr hg hcf hb0
  go_enter Try.func69, Try.ntmps69
  go_wp2_with fail
  refine H.out.mono ?_
  rintro e w1 ⟨rfl, hb1⟩
  go_wp2_with fail
  go_ret
  exact ⟨by rw [← HE.out]; rfl, (by repeat (first | (with_reducible first | exact Below.refl _ _ | refine Below.drew ?_ | refine below_drewN ?_ _) | ((with_reducible first | refine Lc ?_ ?_ _ | refine Ls ?_ ?_ _ | refine Lv (by assumption) ?_ ?_); · first | exact Nat.le_refl _ | omega | (simp; done) | (simp; omega) | (simp at *; omega))))⟩

set_option maxRecDepth 100000 in
set_option maxHeartbeats 1000000 in
/-- the closure of bin.every -/
theorem not_kd (g cb : Nat) (p : Int) (f : Bool) (w : World) (hc : w.cell? ⟨cb, 0, none⟩ = some (.func (.func g) #[] #[])) (hcf : ∀ args w, (callFunc g args).run Try.prog w = .ok (.enter g args) w)
    (hg : ∀ w', Below w.heap.size w w' → Calls Try.prog g #[.int .i64 p] w' fun e w'' => e = .returned (.bool f) ∧ Below w'.heap.size w' w'') :
    Calls Try.prog 94 #[.int .i64 p, .pointer (some ⟨cb, 0, none⟩)] w fun e w' => e = .returned (.bool (!f)) ∧ Below w.heap.size w w' := by
  have HG := Lib.hid hg
  have hl : cb < w.heap.size := World.block_lt_of_cell? w _ hc
  clear hg
  go_enter Try.func94, Try.ntmps94
  go_wp2_with fail
  refine (HG.out _ (by repeat (first | (with_reducible first | exact Below.refl _ _ | refine Below.drew ?_ | refine below_drewN ?_ _) | ((with_reducible first | refine Lc ?_ ?_ _ | refine Ls ?_ ?_ _ | refine Lv (by assumption) ?_ ?_); · first | exact Nat.le_refl _ | omega | (simp; done) | (simp; omega) | (simp at *; omega))))).mono ?_
  rintro e w1 ⟨rfl, hb1⟩
  go_wp2_with fail
  go_ret
  exact ⟨rfl, (by repeat (first | (with_reducible first | exact Below.refl _ _ | refine Below.drew ?_ | refine below_drewN ?_ _) | ((with_reducible first | refine Lc ?_ ?_ _ | refine Ls ?_ ?_ _ | refine Lv (by assumption) ?_ ?_); · first | exact Nat.le_refl _ | omega | (simp; done) | (simp; omega) | (simp at *; omega))))⟩

set_option maxRecDepth 100000 in
set_option maxHeartbeats 1000000 in
/-- bin.every -/
theorem every_kd (A : Option Addr) (n c : Nat) (P : Nat → Int) (W : World) (hr : IntRow W W.heap.size A n P) (hn : n ≤ 1000) (g : Nat) (f : Nat → Bool)
    (hcf : ∀ args w, (callFunc g args).run Try.prog w = .ok (.enter g args) w)
    (hg : ∀ k, k < n → ∀ w, Below W.heap.size W w → Calls Try.prog g #[.int .i64 (P k)] w fun e w' => e = .returned (.bool (f k)) ∧ Below w.heap.size w w') :
    Calls Try.prog 71 #[.slice A n c, .func (.func g) #[] #[]] W fun e w' => e = .returned (.bool (allN f n)) ∧ Below W.heap.size W w' := by
  have hb0 : Below W.heap.size W (W.alloc (.cells #[.func (.func g) #[] #[]] 136)) := (Below.refl _ _).alloc (Nat.le_refl _) _
  have H := Lib.hid (has_kd A n c P (W.alloc (.cells #[.func (.func g) #[] #[]] 136)) ((hr.below hb0).mono (by simp)) hn 94 W.heap.size (fun k => !f k) (enters_of Try.func94 (by kernel_rfl) rfl)
    (fun k hk w hb => not_kd g W.heap.size (P k) (f k) w ((hb.cell (p := ⟨W.heap.size, 0, none⟩) (by simp)).trans (by simp)) hcf (fun w' hb' => hg k hk w' (hb0.trans ((hb.mono (by simp)).trans (hb'.mono (by have := hb.size; simp at this; omega)))))))
  have HE := Lib.hid (idx_every f n)
  clear hr hg hcf hb0
  go_enter Try.func71, Try.ntmps71
  go_wp2_with fail
  refine H.out.mono ?_
  rintro e w1 ⟨rfl, hb1⟩
  go_wp2_with fail
  go_ret
  exact ⟨by rw [← HE.out]; rfl, (by repeat (first | (with_reducible first | exact Below.refl _ _ | refine Below.drew ?_ | refine below_drewN ?_ _) | ((with_reducible first | refine Lc ?_ ?_ _ | refine Ls ?_ ?_ _ | refine Lv (by assumption) ?_ ?_); · first | exact Nat.le_refl _ | omega | (simp; done) | (simp; omega) | (simp at *; omega))))⟩

set_option maxRecDepth 100000 in
set_option maxHeartbeats 1000000 in
/-- the closure of bin.every -/
theorem not_sp (g cb : Nat) (p : Sp) (f : Bool) (w : World) (hc : w.cell? ⟨cb, 0, none⟩ = some (.func (.func g) #[] #[])) (hcf : ∀ args w, (callFunc g args).run Try.prog w = .ok (.enter g args) w)
    (hg : ∀ w', Below w.heap.size w w' → Calls Try.prog g #[spV p] w' fun e w'' => e = .returned (.bool f) ∧ Below w'.heap.size w' w'') :
    Calls Try.prog 103 #[spV p, .pointer (some ⟨cb, 0, none⟩)] w fun e w' => e = .returned (.bool (!f)) ∧ Below w.heap.size w w' := by
  have HG := Lib.hid hg
  have hl : cb < w.heap.size := World.block_lt_of_cell? w _ hc
  clear hg
  go_enter Try.func103, Try.ntmps103
  go_wp2_with fail
  refine (HG.out _ (by repeat (first | (with_reducible first | exact Below.refl _ _ | refine Below.drew ?_ | refine below_drewN ?_ _) | ((with_reducible first | refine Lc ?_ ?_ _ | refine Ls ?_ ?_ _ | refine Lv (by assumption) ?_ ?_); · first | exact Nat.le_refl _ | omega | (simp; done) | (simp; omega) | (simp at *; omega))))).mono ?_
  rintro e w1 ⟨rfl, hb1⟩
  go_wp2_with fail
  go_ret
  exact ⟨rfl, (by repeat (first | (with_reducible first | exact Below.refl _ _ | refine Below.drew ?_ | refine below_drewN ?_ _) | ((with_reducible first | refine Lc ?_ ?_ _ | refine Ls ?_ ?_ _ | refine Lv (by assumption) ?_ ?_); · first | exact Nat.le_refl _ | omega | (simp; done) | (simp; omega) | (simp at *; omega))))⟩

set_option maxRecDepth 100000 in
set_option maxHeartbeats 1000000 in
/-- bin.every -/
theorem every_sp (A : Option Addr) (n c : Nat) (P : Nat → Sp) (W : World) (hr : SpRow W W.heap.size A n P) (hn : n ≤ 1000) (g : Nat) (f : Nat → Bool)
    (hcf : ∀ args w, (callFunc g args).run Try.prog w = .ok (.enter g args) w)
    (hg : ∀ k, k < n → ∀ w, Below W.heap.size W w → Calls Try.prog g #[spV (P k)] w fun e w' => e = .returned (.bool (f k)) ∧ Below w.heap.size w w') :
    Calls Try.prog 89 #[.slice A n c, .func (.func g) #[] #[]] W fun e w' => e = .returned (.bool (allN f n)) ∧ Below W.heap.size W w' := by
  have hb0 : Below W.heap.size W (W.alloc (.cells #[.func (.func g) #[] #[]] 147)) := (Below.refl _ _).alloc (Nat.le_refl _) _
  have H := Lib.hid (has_sp A n c P (W.alloc (.cells #[.func (.func g) #[] #[]] 147)) ((hr.below hb0).mono (by simp)) hn 103 W.heap.size (fun k => !f k) (enters_of Try.func103 (by kernel_rfl) rfl)
    (fun k hk w hb => not_sp g W.heap.size (P k) (f k) w ((hb.cell (p := ⟨W.heap.size, 0, none⟩) (by simp)).trans (by simp)) hcf (fun w' hb' => hg k hk w' (hb0.trans ((hb.mono (by simp)).trans (hb'.mono (by have := hb.size; simp at this; omega)))))))
  have HE := Lib.hid (idx_every f n)
  clear hr hg hcf hb0
  go_enter Try.func89, Try.ntmps89
  go_wp2_with fail
  refine H.out.mono ?_
  rintro e w1 ⟨rfl, hb1⟩
  go_wp2_with fail
  go_ret
  exact ⟨by rw [← HE.out]; rfl, (by repeat (first | (with_reducible first | exact Below.refl _ _ | refine Below.drew ?_ | refine below_drewN ?_ _) | ((with_reducible first | refine Lc ?_ ?_ _ | refine Ls ?_ ?_ _ | refine Lv (by assumption) ?_ ?_); · first | exact Nat.le_refl _ | omega | (simp; done) | (simp; omega) | (simp at *; omega))))⟩

set_option maxRecDepth 100000 in
set_option maxHeartbeats 1000000 in
/-- the closure of bin.every -/
theorem not_int (g cb : Nat) (p : Int) (f : Bool) (w : World) (hc : w.cell? ⟨cb, 0, none⟩ = some (.func (.func g) #[] #[])) (hcf : ∀ args w, (callFunc g args).run Try.prog w = .ok (.enter g args) w)
    (hg : ∀ w', Below w.heap.size w w' → Calls Try.prog g #[.int .i64 p] w' fun e w'' => e = .returned (.bool f) ∧ Below w'.heap.size w' w'') :
    Calls Try.prog 81 #[.int .i64 p, .pointer (some ⟨cb, 0, none⟩)] w fun e w' => e = .returned (.bool (!f)) ∧ Below w.heap.size w w' := by
  have HG := Lib.hid hg
  have hl : cb < w.heap.size := World.block_lt_of_cell? w _ hc
  clear hg
  go_enter Try.func81, Try.ntmps81
  go_wp2_with fail
  refine (HG.out _ (by repeat (first | (with_reducible first | exact Below.refl _ _ | refine Below.drew ?_ | refine below_drewN ?_ _) | ((with_reducible first | refine Lc ?_ ?_ _ | refine Ls ?_ ?_ _ | refine Lv (by assumption) ?_ ?_); · first | exact Nat.le_refl _ | omega | (simp; done) | (simp; omega) | (simp at *; omega))))).mono ?_
  rintro e w1 ⟨rfl, hb1⟩
  go_wp2_with fail
  go_ret
  exact ⟨rfl, (by repeat (first | (with_reducible first | exact Below.refl _ _ | refine Below.drew ?_ | refine below_drewN ?_ _) | ((with_reducible first | refine Lc ?_ ?_ _ | refine Ls ?_ ?_ _ | refine Lv (by assumption) ?_ ?_); · first | exact Nat.le_refl _ | omega | (simp; done) | (simp; omega) | (simp at *; omega))))⟩

set_option maxRecDepth 100000 in
set_option maxHeartbeats 1000000 in
/-- bin.every -/
theorem every_int (A : Option Addr) (n c : Nat) (P : Nat → Int) (W : World) (hr : IntRow W W.heap.size A n P) (hn : n ≤ 1000) (g : Nat) (f : Nat → Bool)
    (hcf : ∀ args w, (callFunc g args).run Try.prog w = .ok (.enter g args) w)
    (hg : ∀ k, k < n → ∀ w, Below W.heap.size W w → Calls Try.prog g #[.int .i64 (P k)] w fun e w' => e = .returned (.bool (f k)) ∧ Below w.heap.size w w') :
    Calls Try.prog 53 #[.slice A n c, .func (.func g) #[] #[]] W fun e w' => e = .returned (.bool (allN f n)) ∧ Below W.heap.size W w' := by
  have hb0 : Below W.heap.size W (W.alloc (.cells #[.func (.func g) #[] #[]] 37)) := (Below.refl _ _).alloc (Nat.le_refl _) _
  have H := Lib.hid (has_int A n c P (W.alloc (.cells #[.func (.func g) #[] #[]] 37)) ((hr.below hb0).mono (by simp)) hn 81 W.heap.size (fun k => !f k) (enters_of Try.func81 (by kernel_rfl) rfl)
    (fun k hk w hb => not_int g W.heap.size (P k) (f k) w ((hb.cell (p := ⟨W.heap.size, 0, none⟩) (by simp)).trans (by simp)) hcf (fun w' hb' => hg k hk w' (hb0.trans ((hb.mono (by simp)).trans (hb'.mono (by have := hb.size; simp at this; omega)))))))
  have HE := Lib.hid (idx_every f n)
  clear hr hg hcf hb0
  go_enter Try.func53, Try.ntmps53
  go_wp2_with fail
  refine H.out.mono ?_
  rintro e w1 ⟨rfl, hb1⟩
  go_wp2_with fail
  go_ret
  exact ⟨by rw [← HE.out]; rfl, (by repeat (first | (with_reducible first | exact Below.refl _ _ | refine Below.drew ?_ | refine below_drewN ?_ _) | ((with_reducible first | refine Lc ?_ ?_ _ | refine Ls ?_ ?_ _ | refine Lv (by assumption) ?_ ?_); · first | exact Nat.le_refl _ | omega | (simp; done) | (simp; omega) | (simp at *; omega))))⟩

set_option maxRecDepth 100000 in
set_option maxHeartbeats 1000000 in
/-- the closure of bin.every -/
theorem not_fcC (g cb xb : Nat) (p : Fc) (f : Bool) (w : World) (hc : w.cell? ⟨cb, 0, none⟩ = some (.func (.func g) #[] #[.pointer (some ⟨xb, 0, none⟩)])) (hcf : ∀ args w, (callFunc g args).run Try.prog w = .ok (.enter g args) w)
    (hg : ∀ w', Below w.heap.size w w' → Calls Try.prog g #[fcV p, .pointer (some ⟨xb, 0, none⟩)] w' fun e w'' => e = .returned (.bool f) ∧ Below w'.heap.size w' w'') :
    Calls Try.prog 99 #[fcV p, .pointer (some ⟨cb, 0, none⟩)] w fun e w' => e = .returned (.bool (!f)) ∧ Below w.heap.size w w' := by
  have HG := Lib.hid hg
  have hl : cb < w.heap.size := World.block_lt_of_cell? w _ hc
  clear hg
  go_enter Try.func99, Try.ntmps99
  go_wp2_with fail
  refine (HG.out _ (by repeat (first | (with_reducible first | exact Below.refl _ _ | refine Below.drew ?_ | refine below_drewN ?_ _) | ((with_reducible first | refine Lc ?_ ?_ _ | refine Ls ?_ ?_ _ | refine Lv (by assumption) ?_ ?_); · first | exact Nat.le_refl _ | omega | (simp; done) | (simp; omega) | (simp at *; omega))))).mono ?_
  rintro e w1 ⟨rfl, hb1⟩
  go_wp2_with fail
  go_ret
  exact ⟨rfl, (by repeat (first | (with_reducible first | exact Below.refl _ _ | refine Below.drew ?_ | refine below_drewN ?_ _) | ((with_reducible first | refine Lc ?_ ?_ _ | refine Ls ?_ ?_ _ | refine Lv (by assumption) ?_ ?_); · first | exact Nat.le_refl _ | omega | (simp; done) | (simp; omega) | (simp at *; omega))))⟩

set_option maxRecDepth 100000 in
set_option maxHeartbeats 1000000 in
/-- bin.every -/
theorem every_fcC (A : Option Addr) (n c : Nat) (P : Nat → Fc) (W : World) (hr : FcRow W W.heap.size A n P) (hn : n ≤ 1000) (g xb : Nat) (f : Nat → Bool)
    (hcf : ∀ args w, (callFunc g args).run Try.prog w = .ok (.enter g args) w)
    (hg : ∀ k, k < n → ∀ w, Below W.heap.size W w → Calls Try.prog g #[fcV (P k), .pointer (some ⟨xb, 0, none⟩)] w fun e w' => e = .returned (.bool (f k)) ∧ Below w.heap.size w w') :
    Calls Try.prog 84 #[.slice A n c, .func (.func g) #[] #[.pointer (some ⟨xb, 0, none⟩)]] W fun e w' => e = .returned (.bool (allN f n)) ∧ Below W.heap.size W w' := by
  have hb0 : Below W.heap.size W (W.alloc (.cells #[.func (.func g) #[] #[.pointer (some ⟨xb, 0, none⟩)]] 145)) := (Below.refl _ _).alloc (Nat.le_refl _) _
  have H := Lib.hid (has_fc A n c P (W.alloc (.cells #[.func (.func g) #[] #[.pointer (some ⟨xb, 0, none⟩)]] 145)) ((hr.below hb0).mono (by simp)) hn 99 W.heap.size (fun k => !f k) (enters_of Try.func99 (by kernel_rfl) rfl)
    (fun k hk w hb => not_fcC g W.heap.size xb (P k) (f k) w ((hb.cell (p := ⟨W.heap.size, 0, none⟩) (by simp)).trans (by simp)) hcf (fun w' hb' => hg k hk w' (hb0.trans ((hb.mono (by simp)).trans (hb'.mono (by have := hb.size; simp at this; omega)))))))
  have HE := Lib.hid (idx_every f n)
  clear hr hg hcf hb0
  go_enter Try.func84, Try.ntmps84
  go_wp2_with fail
  refine H.out.mono ?_
  rintro e w1 ⟨rfl, hb1⟩
  go_wp2_with fail
  go_ret
  exact ⟨by rw [← HE.out]; rfl, (by repeat (first | (with_reducible first | exact Below.refl _ _ | refine Below.drew ?_ | refine below_drewN ?_ _) | ((with_reducible first | refine Lc ?_ ?_ _ | refine Ls ?_ ?_ _ | refine Lv (by assumption) ?_ ?_); · first | exact Nat.le_refl _ | omega | (simp; done) | (simp; omega) | (simp at *; omega))))⟩
end Go.Proofs.Ytnnikeolgknfoaa
