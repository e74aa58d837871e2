/- slices.IndexFunc, ContainsFunc and bin.every. (Written by gen_rows.py.) -/
import Derived.Test.YtnnikeolgknfoaaGreatBt
set_option linter.unusedSimpArgs false
set_option linter.unusedVariables false
namespace Go.Proofs.YtnnikeolgknfoaaGreat
open Go.RowKit Go.Shelf

set_option maxRecDepth 100000 in
set_option maxHeartbeats 1000000 in
theorem idx_bn (A : Option Addr) (n c : Nat) (P : Nat → Bn) (W : World) (hr : BnRow W W.heap.size A n P) (hn : n ≤ 1000) (h cb : Nat) (f : Nat → Bool)
    (hcf : ∀ args w, (callFunc h args).run Tryz.prog w = .ok (.enter h args) w)
    (hf : ∀ k, k < n → ∀ w, Below W.heap.size W w → Calls Tryz.prog h #[bnV (P k), .pointer (some ⟨cb, 0, none⟩)] w fun e w' => e = .returned (.bool (f k)) ∧ Below w.heap.size w w') :
    Calls Tryz.prog 156 #[.slice A n c, .func (.func h) #[] #[.pointer (some ⟨cb, 0, none⟩)]] W fun e w' => e = .returned (.int .i64 (idxFrom f n 0)) ∧ Below W.heap.size W w' := by
  have HR := Lib.hid hr
  have HF := Lib.hid hf
  clear hr hf
  go_enter Tryz.func156, Tryz.ntmps156
  go_wp2_with fail
  go_loopw [8] (fun i wr => ∃ k : Nat, k ≤ n ∧ i = .int .i64 k ∧ Hid (idxFrom f n 0 = idxFrom f (n - k) k) ∧ Below W.heap.size W wr) (fun i _ => n - (intOf i).toNat)
  case atStart => exact ⟨0, Nat.zero_le _, rfl, Lib.hid rfl, Below.refl _ _⟩
  case round =>
    obtain ⟨k, hk, rfl, h0, hbw⟩ := hrel
    have HBW := Lib.hid hbw
    clear hbw
    by_cases hlt : k < n
    · obtain ⟨b, o, rfl, hb', c0, c1, c2, c3, c4, c5, c6⟩ := HR.out.below HBW.out k hlt
      have hcall := Lib.hid (HF.out k hlt wr HBW.out)
      go_wp2_with fail
      refine hcall.out.mono ?_
      rintro e w1 ⟨rfl, hb1⟩
      have hsz := HBW.out.size
      by_cases hh : f k = true
      · have HH := Lib.hid hh
        have hy := HBW.out
        go_wp2_with fail
        go_ret
        exact ⟨by rw [idx_yes hlt h0.out HH.out]; rfl, (by repeat (first | (with_reducible first | exact Below.refl _ _ | refine Below.drew ?_ | refine below_drewN ?_ _) | ((with_reducible first | refine Lc ?_ ?_ _ | refine Ls ?_ ?_ _ | refine Lv (by assumption) ?_ ?_); · first | exact Nat.le_refl _ | omega | (simp; done) | (simp; omega) | (simp at *; omega))))⟩
      · simp only [Bool.not_eq_true] at hh
        have HH := Lib.hid hh
        have hall : Hid (Below W.heap.size W w1) := Lib.hid (by have hy := HBW.out; exact (by repeat (first | (with_reducible first | exact Below.refl _ _ | refine Below.drew ?_ | refine below_drewN ?_ _) | ((with_reducible first | refine Lc ?_ ?_ _ | refine Ls ?_ ?_ _ | refine Lv (by assumption) ?_ ?_); · first | exact Nat.le_refl _ | omega | (simp; done) | (simp; omega) | (simp at *; omega)))))
        go_wp2_with fail
        go_roundw
        case rel => exact ⟨k + 1, by omega, by go_num, Lib.hid (idx_no hlt h0.out HH.out), hall.out⟩
        case measure => simp [intOf]; omega
    · have hk' : k = n := by omega
      go_wp2_with fail
      go_ret
      exact ⟨by rw [idx_end (by have h := h0.out; rwa [hk'] at h)]; rfl, HBW.out⟩

set_option maxRecDepth 100000 in
set_option maxHeartbeats 1000000 in
theorem has_bn (A : Option Addr) (n c : Nat) (P : Nat → Bn) (W : World) (hr : BnRow W W.heap.size A n P) (hn : n ≤ 1000) (h cb : Nat) (f : Nat → Bool)
    (hcf : ∀ args w, (callFunc h args).run Tryz.prog w = .ok (.enter h args) w)
    (hf : ∀ k, k < n → ∀ w, Below W.heap.size W w → Calls Tryz.prog h #[bnV (P k), .pointer (some ⟨cb, 0, none⟩)] w fun e w' => e = .returned (.bool (f k)) ∧ Below w.heap.size w w') :
    Calls Tryz.prog 141 #[.slice A n c, .func (.func h) #[] #[.pointer (some ⟨cb, 0, none⟩)]] W fun e w' => e = .returned (.bool (decide (0 ≤ idxFrom f n 0))) ∧ Below W.heap.size W w' := by
  have H := Lib.hid (idx_bn A n c P W hr hn h cb f hcf hf)
  clear hr hf hcf
  go_enter Tryz.func141, Tryz.ntmps141
  go_wp2_with fail
  refine H.out.mono ?_
  rintro e w1 ⟨rfl, hb1⟩
  go_wp2_with fail
  go_ret
  exact ⟨rfl, hb1⟩


set_option maxRecDepth 100000 in
set_option maxHeartbeats 1000000 in
theorem idx_wg (A : Option Addr) (n c : Nat) (P : Nat → Wg) (W : World) (hr : WgRow W W.heap.size A n P) (hn : n ≤ 1000) (h cb : Nat) (f : Nat → Bool)
    (hcf : ∀ args w, (callFunc h args).run Tryz.prog w = .ok (.enter h args) w)
    (hf : ∀ k, k < n → ∀ w, Below W.heap.size W w → Calls Tryz.prog h #[wgV (P k), .pointer (some ⟨cb, 0, none⟩)] w fun e w' => e = .returned (.bool (f k)) ∧ Below w.heap.size w w') :
    Calls Tryz.prog 159 #[.slice A n c, .func (.func h) #[] #[.pointer (some ⟨cb, 0, none⟩)]] W fun e w' => e = .returned (.int .i64 (idxFrom f n 0)) ∧ Below W.heap.size W w' := by
  have HR := Lib.hid hr
  have HF := Lib.hid hf
  clear hr hf
  go_enter Tryz.func159, Tryz.ntmps159
  go_wp2_with fail
  go_loopw [8] (fun i wr => ∃ k : Nat, k ≤ n ∧ i = .int .i64 k ∧ Hid (idxFrom f n 0 = idxFrom f (n - k) k) ∧ Below W.heap.size W wr) (fun i _ => n - (intOf i).toNat)
  case atStart => exact ⟨0, Nat.zero_le _, rfl, Lib.hid rfl, Below.refl _ _⟩
  case round =>
    obtain ⟨k, hk, rfl, h0, hbw⟩ := hrel
    have HBW := Lib.hid hbw
    clear hbw
    by_cases hlt : k < n
    · obtain ⟨b, o, rfl, hb', c0, c1, c2, c3⟩ := HR.out.below HBW.out k hlt
      have hcall := Lib.hid (HF.out k hlt wr HBW.out)
      go_wp2_with fail
      refine hcall.out.mono ?_
      rintro e w1 ⟨rfl, hb1⟩
      have hsz := HBW.out.size
      by_cases hh : f k = true
      · have HH := Lib.hid hh
        have hy := HBW.out
        go_wp2_with fail
        go_ret
        exact ⟨by rw [idx_yes hlt h0.out HH.out]; rfl, (by repeat (first | (with_reducible first | exact Below.refl _ _ | refine Below.drew ?_ | refine below_drewN ?_ _) | ((with_reducible first | refine Lc ?_ ?_ _ | refine Ls ?_ ?_ _ | refine Lv (by assumption) ?_ ?_); · first | exact Nat.le_refl _ | omega | (simp; done) | (simp; omega) | (simp at *; omega))))⟩
      · simp only [Bool.not_eq_true] at hh
        have HH := Lib.hid hh
        have hall : Hid (Below W.heap.size W w1) := Lib.hid (by have hy := HBW.out; exact (by repeat (first | (with_reducible first | exact Below.refl _ _ | refine Below.drew ?_ | refine below_drewN ?_ _) | ((with_reducible first | refine Lc ?_ ?_ _ | refine Ls ?_ ?_ _ | refine Lv (by assumption) ?_ ?_); · first | exact Nat.le_refl _ | omega | (simp; done) | (simp; omega) | (simp at *; omega)))))
        go_wp2_with fail
        go_roundw
        case rel => exact ⟨k + 1, by omega, by go_num, Lib.hid (idx_no hlt h0.out HH.out), hall.out⟩
        case measure => simp [intOf]; omega
    · have hk' : k = n := by omega
      go_wp2_with fail
      go_ret
      exact ⟨by rw [idx_end (by have h := h0.out; rwa [hk'] at h)]; rfl, HBW.out⟩

set_option maxRecDepth 100000 in
set_option maxHeartbeats 1000000 in
theorem has_wg (A : Option Addr) (n c : Nat) (P : Nat → Wg) (W : World) (hr : WgRow W W.heap.size A n P) (hn : n ≤ 1000) (h cb : Nat) (f : Nat → Bool)
    (hcf : ∀ args w, (callFunc h args).run Tryz.prog w = .ok (.enter h args) w)
    (hf : ∀ k, k < n → ∀ w, Below W.heap.size W w → Calls Tryz.prog h #[wgV (P k), .pointer (some ⟨cb, 0, none⟩)] w fun e w' => e = .returned (.bool (f k)) ∧ Below w.heap.size w w') :
    Calls Tryz.prog 145 #[.slice A n c, .func (.func h) #[] #[.pointer (some ⟨cb, 0, none⟩)]] W fun e w' => e = .returned (.bool (decide (0 ≤ idxFrom f n 0))) ∧ Below W.heap.size W w' := by
  have H := Lib.hid (idx_wg A n c P W hr hn h cb f hcf hf)
  clear hr hf hcf
  go_enter Tryz.func145, Tryz.ntmps145
  go_wp2_with fail
  refine H.out.mono ?_
  rintro e w1 ⟨rfl, hb1⟩
  go_wp2_with fail
  go_ret
  exact ⟨rfl, hb1⟩


set_option maxRecDepth 100000 in
set_option maxHeartbeats 1000000 in
theorem idx_fc (A : Option Addr) (n c : Nat) (P : Nat → Fc) (W : World) (hr : FcRow W W.heap.size A n P) (hn : n ≤ 1000) (h cb : Nat) (f : Nat → Bool)
    (hcf : ∀ args w, (callFunc h args).run Tryz.prog w = .ok (.enter h args) w)
    (hf : ∀ k, k < n → ∀ w, Below W.heap.size W w → Calls Tryz.prog h #[fcV (P k), .pointer (some ⟨cb, 0, none⟩)] w fun e w' => e = .returned (.bool (f k)) ∧ Below w.heap.size w w') :
    Calls Tryz.prog 125 #[.slice A n c, .func (.func h) #[] #[.pointer (some ⟨cb, 0, none⟩)]] W fun e w' => e = .returned (.int .i64 (idxFrom f n 0)) ∧ Below W.heap.size W w' := by
  have HR := Lib.hid hr
  have HF := Lib.hid hf
  clear hr hf
  go_enter Tryz.func125, Tryz.ntmps125
  go_wp2_with fail
  go_loopw [8] (fun i wr => ∃ k : Nat, k ≤ n ∧ i = .int .i64 k ∧ Hid (idxFrom f n 0 = idxFrom f (n - k) k) ∧ Below W.heap.size W wr) (fun i _ => n - (intOf i).toNat)
  case atStart => exact ⟨0, Nat.zero_le _, rfl, Lib.hid rfl, Below.refl _ _⟩
  case round =>
    obtain ⟨k, hk, rfl, h0, hbw⟩ := hrel
    have HBW := Lib.hid hbw
    clear hbw
    by_cases hlt : k < n
    · obtain ⟨b, o, rfl, hb', c0, c1, c2⟩ := HR.out.below HBW.out k hlt
      have hcall := Lib.hid (HF.out k hlt wr HBW.out)
      go_wp2_with fail
      refine hcall.out.mono ?_
      rintro e w1 ⟨rfl, hb1⟩
      have hsz := HBW.out.size
      by_cases hh : f k = true
      · have HH := Lib.hid hh
        have hy := HBW.out
        go_wp2_with fail
        go_ret
        exact ⟨by rw [idx_yes hlt h0.out HH.out]; rfl, (by repeat (first | (with_reducible first | exact Below.refl _ _ | refine Below.drew ?_ | refine below_drewN ?_ _) | ((with_reducible first | refine Lc ?_ ?_ _ | refine Ls ?_ ?_ _ | refine Lv (by assumption) ?_ ?_); · first | exact Nat.le_refl _ | omega | (simp; done) | (simp; omega) | (simp at *; omega))))⟩
      · simp only [Bool.not_eq_true] at hh
        have HH := Lib.hid hh
        have hall : Hid (Below W.heap.size W w1) := Lib.hid (by have hy := HBW.out; exact (by repeat (first | (with_reducible first | exact Below.refl _ _ | refine Below.drew ?_ | refine below_drewN ?_ _) | ((with_reducible first | refine Lc ?_ ?_ _ | refine Ls ?_ ?_ _ | refine Lv (by assumption) ?_ ?_); · first | exact Nat.le_refl _ | omega | (simp; done) | (simp; omega) | (simp at *; omega)))))
        go_wp2_with fail
        go_roundw
        case rel => exact ⟨k + 1, by omega, by go_num, Lib.hid (idx_no hlt h0.out HH.out), hall.out⟩
        case measure => simp [intOf]; omega
    · have hk' : k = n := by omega
      go_wp2_with fail
      go_ret
      exact ⟨by rw [idx_end (by have h := h0.out; rwa [hk'] at h)]; rfl, HBW.out⟩

set_option maxRecDepth 100000 in
set_option maxHeartbeats 1000000 in
theorem has_fc (A : Option Addr) (n c : Nat) (P : Nat → Fc) (W : World) (hr : FcRow W W.heap.size A n P) (hn : n ≤ 1000) (h cb : Nat) (f : Nat → Bool)
    (hcf : ∀ args w, (callFunc h args).run Tryz.prog w = .ok (.enter h args) w)
    (hf : ∀ k, k < n → ∀ w, Below W.heap.size W w → Calls Tryz.prog h #[fcV (P k), .pointer (some ⟨cb, 0, none⟩)] w fun e w' => e = .returned (.bool (f k)) ∧ Below w.heap.size w w') :
    Calls Tryz.prog 56 #[.slice A n c, .func (.func h) #[] #[.pointer (some ⟨cb, 0, none⟩)]] W fun e w' => e = .returned (.bool (decide (0 ≤ idxFrom f n 0))) ∧ Below W.heap.size W w' := by
  have H := Lib.hid (idx_fc A n c P W hr hn h cb f hcf hf)
  clear hr hf hcf
  go_enter Tryz.func56, Tryz.ntmps56
  go_wp2_with fail
  refine H.out.mono ?_
  rintro e w1 ⟨rfl, hb1⟩
  go_wp2_with fail
  go_ret
  exact ⟨rfl, hb1⟩


set_option maxRecDepth 100000 in
set_option maxHeartbeats 1000000 in
theorem idx_sp (A : Option Addr) (n c : Nat) (P : Nat → Sp) (W : World) (hr : SpRow W W.heap.size A n P) (hn : n ≤ 1000) (h cb : Nat) (f : Nat → Bool)
    (hcf : ∀ args w, (callFunc h args).run Tryz.prog w = .ok (.enter h args) w)
    (hf : ∀ k, k < n → ∀ w, Below W.heap.size W w → Calls Tryz.prog h #[spV (P k), .pointer (some ⟨cb, 0, none⟩)] w fun e w' => e = .returned (.bool (f k)) ∧ Below w.heap.size w w') :
    Calls Tryz.prog 161 #[.slice A n c, .func (.func h) #[] #[.pointer (some ⟨cb, 0, none⟩)]] W fun e w' => e = .returned (.int .i64 (idxFrom f n 0)) ∧ Below W.heap.size W w' := by
  have HR := Lib.hid hr
  have HF := Lib.hid hf
  clear hr hf
  go_enter Tryz.func161, Tryz.ntmps161
  go_wp2_with fail
  go_loopw [8] (fun i wr => ∃ k : Nat, k ≤ n ∧ i = .int .i64 k ∧ Hid (idxFrom f n 0 = idxFrom f (n - k) k) ∧ Below W.heap.size W wr) (fun i _ => n - (intOf i).toNat)
  case atStart => exact ⟨0, Nat.zero_le _, rfl, Lib.hid rfl, Below.refl _ _⟩
  case round =>
    obtain ⟨k, hk, rfl, h0, hbw⟩ := hrel
    have HBW := Lib.hid hbw
    clear hbw
    by_cases hlt : k < n
    · obtain ⟨b, o, rfl, hb', c0, c1⟩ := HR.out.below HBW.out k hlt
      have hcall := Lib.hid (HF.out k hlt wr HBW.out)
      go_wp2_with fail
      refine hcall.out.mono ?_
      rintro e w1 ⟨rfl, hb1⟩
      have hsz := HBW.out.size
      by_cases hh : f k = true
      · have HH := Lib.hid hh
        have hy := HBW.out
        go_wp2_with fail
        go_ret
        exact ⟨by rw [idx_yes hlt h0.out HH.out]; rfl, (by repeat (first | (with_reducible first | exact Below.refl _ _ | refine Below.drew ?_ | refine below_drewN ?_ _) | ((with_reducible first | refine Lc ?_ ?_ _ | refine Ls ?_ ?_ _ | refine Lv (by assumption) ?_ ?_); · first | exact Nat.le_refl _ | omega | (simp; done) | (simp; omega) | (simp at *; omega))))⟩
      · simp only [Bool.not_eq_true] at hh
        have HH := Lib.hid hh
        have hall : Hid (Below W.heap.size W w1) := Lib.hid (by have hy := HBW.out; exact (by repeat (first | (with_reducible first | exact Below.refl _ _ | refine Below.drew ?_ | refine below_drewN ?_ _) | ((with_reducible first | refine Lc ?_ ?_ _ | refine Ls ?_ ?_ _ | refine Lv (by assumption) ?_ ?_); · first | exact Nat.le_refl _ | omega | (simp; done) | (simp; omega) | (simp at *; omega)))))
        go_wp2_with fail
        go_roundw
        case rel => exact ⟨k + 1, by omega, by go_num, Lib.hid (idx_no hlt h0.out HH.out), hall.out⟩
        case measure => simp [intOf]; omega
    · have hk' : k = n := by omega
      go_wp2_with fail
      go_ret
      exact ⟨by rw [idx_end (by have h := h0.out; rwa [hk'] at h)]; rfl, HBW.out⟩

set_option maxRecDepth 100000 in
set_option maxHeartbeats 1000000 in
theorem has_sp (A : Option Addr) (n c : Nat) (P : Nat → Sp) (W : World) (hr : SpRow W W.heap.size A n P) (hn : n ≤ 1000) (h cb : Nat) (f : Nat → Bool)
    (hcf : ∀ args w, (callFunc h args).run Tryz.prog w = .ok (.enter h args) w)
    (hf : ∀ k, k < n → ∀ w, Below W.heap.size W w → Calls Tryz.prog h #[spV (P k), .pointer (some ⟨cb, 0, none⟩)] w fun e w' => e = .returned (.bool (f k)) ∧ Below w.heap.size w w') :
    Calls Tryz.prog 157 #[.slice A n c, .func (.func h) #[] #[.pointer (some ⟨cb, 0, none⟩)]] W fun e w' => e = .returned (.bool (decide (0 ≤ idxFrom f n 0))) ∧ Below W.heap.size W w' := by
  have H := Lib.hid (idx_sp A n c P W hr hn h cb f hcf hf)
  clear hr hf hcf
  go_enter Tryz.func157, Tryz.ntmps157
  go_wp2_with fail
  refine H.out.mono ?_
  rintro e w1 ⟨rfl, hb1⟩
  go_wp2_with fail
  go_ret
  exact ⟨rfl, hb1⟩


set_option maxRecDepth 100000 in
set_option maxHeartbeats 1000000 in
theorem idx_kd (A : Option Addr) (n c : Nat) (P : Nat → Int) (W : World) (hr : IntRow W W.heap.size A n P) (hn : n ≤ 1000) (h cb : Nat) (f : Nat → Bool)
    (hcf : ∀ args w, (callFunc h args).run Tryz.prog w = .ok (.enter h args) w)
    (hf : ∀ k, k < n → ∀ w, Below W.heap.size W w → Calls Tryz.prog h #[.int .i64 (P k), .pointer (some ⟨cb, 0, none⟩)] w fun e w' => e = .returned (.bool (f k)) ∧ Below w.heap.size w w') :
    Calls Tryz.prog 160 #[.slice A n c, .func (.func h) #[] #[.pointer (some ⟨cb, 0, none⟩)]] W fun e w' => e = .returned (.int .i64 (idxFrom f n 0)) ∧ Below W.heap.size W w' := by
  have HR := Lib.hid hr
  have HF := Lib.hid hf
  clear hr hf
  go_enter Tryz.func160, Tryz.ntmps160
  go_wp2_with fail
  go_loopw [8] (fun i wr => ∃ k : Nat, k ≤ n ∧ i = .int .i64 k ∧ Hid (idxFrom f n 0 = idxFrom f (n - k) k) ∧ Below W.heap.size W wr) (fun i _ => n - (intOf i).toNat)
  case atStart => exact ⟨0, Nat.zero_le _, rfl, Lib.hid rfl, Below.refl _ _⟩
  case round =>
    obtain ⟨k, hk, rfl, h0, hbw⟩ := hrel
    have HBW := Lib.hid hbw
    clear hbw
    by_cases hlt : k < n
    · obtain ⟨b, o, rfl, hb', c0⟩ := HR.out.below HBW.out k hlt
      have hcall := Lib.hid (HF.out k hlt wr HBW.out)
      go_wp2_with fail
      refine hcall.out.mono ?_
      rintro e w1 ⟨rfl, hb1⟩
      have hsz := HBW.out.size
      by_cases hh : f k = true
      · have HH := Lib.hid hh
        have hy := HBW.out
        go_wp2_with fail
        go_ret
        exact ⟨by rw [idx_yes hlt h0.out HH.out]; rfl, (by repeat (first | (with_reducible first | exact Below.refl _ _ | refine Below.drew ?_ | refine below_drewN ?_ _) | ((with_reducible first | refine Lc ?_ ?_ _ | refine Ls ?_ ?_ _ | refine Lv (by assumption) ?_ ?_); · first | exact Nat.le_refl _ | omega | (simp; done) | (simp; omega) | (simp at *; omega))))⟩
      · simp only [Bool.not_eq_true] at hh
        have HH := Lib.hid hh
        have hall : Hid (Below W.heap.size W w1) := Lib.hid (by have hy := HBW.out; exact (by repeat (first | (with_reducible first | exact Below.refl _ _ | refine Below.drew ?_ | refine below_drewN ?_ _) | ((with_reducible first | refine Lc ?_ ?_ _ | refine Ls ?_ ?_ _ | refine Lv (by assumption) ?_ ?_); · first | exact Nat.le_refl _ | omega | (simp; done) | (simp; omega) | (simp at *; omega)))))
        go_wp2_with fail
        go_roundw
        case rel => exact ⟨k + 1, by omega, by go_num, Lib.hid (idx_no hlt h0.out HH.out), hall.out⟩
        case measure => simp [intOf]; omega
    · have hk' : k = n := by omega
      go_wp2_with fail
      go_ret
      exact ⟨by rw [idx_end (by have h := h0.out; rwa [hk'] at h)]; rfl, HBW.out⟩

set_option maxRecDepth 100000 in
set_option maxHeartbeats 1000000 in
theorem has_kd (A : Option Addr) (n c : Nat) (P : Nat → Int) (W : World) (hr : IntRow W W.heap.size A n P) (hn : n ≤ 1000) (h cb : Nat) (f : Nat → Bool)
    (hcf : ∀ args w, (callFunc h args).run Tryz.prog w = .ok (.enter h args) w)
    (hf : ∀ k, k < n → ∀ w, Below W.heap.size W w → Calls Tryz.prog h #[.int .i64 (P k), .pointer (some ⟨cb, 0, none⟩)] w fun e w' => e = .returned (.bool (f k)) ∧ Below w.heap.size w w') :
    Calls Tryz.prog 147 #[.slice A n c, .func (.func h) #[] #[.pointer (some ⟨cb, 0, none⟩)]] W fun e w' => e = .returned (.bool (decide (0 ≤ idxFrom f n 0))) ∧ Below W.heap.size W w' := by
  have H := Lib.hid (idx_kd A n c P W hr hn h cb f hcf hf)
  clear hr hf hcf
  go_enter Tryz.func147, Tryz.ntmps147
  go_wp2_with fail
  refine H.out.mono ?_
  rintro e w1 ⟨rfl, hb1⟩
  go_wp2_with fail
  go_ret
  exact ⟨rfl, hb1⟩


set_option maxRecDepth 100000 in
set_option maxHeartbeats 1000000 in
theorem idx_int (A : Option Addr) (n c : Nat) (P : Nat → Int) (W : World) (hr : IntRow W W.heap.size A n P) (hn : n ≤ 1000) (h cb : Nat) (f : Nat → Bool)
    (hcf : ∀ args w, (callFunc h args).run Tryz.prog w = .ok (.enter h args) w)
    (hf : ∀ k, k < n → ∀ w, Below W.heap.size W w → Calls Tryz.prog h #[.int .i64 (P k), .pointer (some ⟨cb, 0, none⟩)] w fun e w' => e = .returned (.bool (f k)) ∧ Below w.heap.size w w') :
    Calls Tryz.prog 153 #[.slice A n c, .func (.func h) #[] #[.pointer (some ⟨cb, 0, none⟩)]] W fun e w' => e = .returned (.int .i64 (idxFrom f n 0)) ∧ Below W.heap.size W w' := by
  have HR := Lib.hid hr
  have HF := Lib.hid hf
  clear hr hf
  go_enter Tryz.func153, Tryz.ntmps153
  go_wp2_with fail
  go_loopw [8] (fun i wr => ∃ k : Nat, k ≤ n ∧ i = .int .i64 k ∧ Hid (idxFrom f n 0 = idxFrom f (n - k) k) ∧ Below W.heap.size W wr) (fun i _ => n - (intOf i).toNat)
  case atStart => exact ⟨0, Nat.zero_le _, rfl, Lib.hid rfl, Below.refl _ _⟩
  case round =>
    obtain ⟨k, hk, rfl, h0, hbw⟩ := hrel
    have HBW := Lib.hid hbw
    clear hbw
    by_cases hlt : k < n
    · obtain ⟨b, o, rfl, hb', c0⟩ := HR.out.below HBW.out k hlt
      have hcall := Lib.hid (HF.out k hlt wr HBW.out)
      go_wp2_with fail
      refine hcall.out.mono ?_
      rintro e w1 ⟨rfl, hb1⟩
      have hsz := HBW.out.size
      by_cases hh : f k = true
      · have HH := Lib.hid hh
        have hy := HBW.out
        go_wp2_with fail
        go_ret
        exact ⟨by rw [idx_yes hlt h0.out HH.out]; rfl, (by repeat (first | (with_reducible first | exact Below.refl _ _ | refine Below.drew ?_ | refine below_drewN ?_ _) | ((with_reducible first | refine Lc ?_ ?_ _ | refine Ls ?_ ?_ _ | refine Lv (by assumption) ?_ ?_); · first | exact Nat.le_refl _ | omega | (simp; done) | (simp; omega) | (simp at *; omega))))⟩
      · simp only [Bool.not_eq_true] at hh
        have HH := Lib.hid hh
        have hall : Hid (Below W.heap.size W w1) := Lib.hid (by have hy := HBW.out; exact (by repeat (first | (with_reducible first | exact Below.refl _ _ | refine Below.drew ?_ | refine below_drewN ?_ _) | ((with_reducible first | refine Lc ?_ ?_ _ | refine Ls ?_ ?_ _ | refine Lv (by assumption) ?_ ?_); · first | exact Nat.le_refl _ | omega | (simp; done) | (simp; omega) | (simp at *; omega)))))
        go_wp2_with fail
        go_roundw
        case rel => exact ⟨k + 1, by omega, by go_num, Lib.hid (idx_no hlt h0.out HH.out), hall.out⟩
        case measure => simp [intOf]; omega
    · have hk' : k = n := by omega
      go_wp2_with fail
      go_ret
      exact ⟨by rw [idx_end (by have h := h0.out; rwa [hk'] at h)]; rfl, HBW.out⟩

set_option maxRecDepth 100000 in
set_option maxHeartbeats 1000000 in
theorem has_int (A : Option Addr) (n c : Nat) (P : Nat → Int) (W : World) (hr : IntRow W W.heap.size A n P) (hn : n ≤ 1000) (h cb : Nat) (f : Nat → Bool)
    (hcf : ∀ args w, (callFunc h args).run Tryz.prog w = .ok (.enter h args) w)
    (hf : ∀ k, k < n → ∀ w, Below W.heap.size W w → Calls Tryz.prog h #[.int .i64 (P k), .pointer (some ⟨cb, 0, none⟩)] w fun e w' => e = .returned (.bool (f k)) ∧ Below w.heap.size w w') :
    Calls Tryz.prog 131 #[.slice A n c, .func (.func h) #[] #[.pointer (some ⟨cb, 0, none⟩)]] W fun e w' => e = .returned (.bool (decide (0 ≤ idxFrom f n 0))) ∧ Below W.heap.size W w' := by
  have H := Lib.hid (idx_int A n c P W hr hn h cb f hcf hf)
  clear hr hf hcf
  go_enter Tryz.func131, Tryz.ntmps131
  go_wp2_with fail
  refine H.out.mono ?_
  rintro e w1 ⟨rfl, hb1⟩
  go_wp2_with fail
  go_ret
  exact ⟨rfl, hb1⟩


set_option maxRecDepth 100000 in
set_option maxHeartbeats 1000000 in
/-- the closure of bin.every -/
theorem not_bnC (g cb xb : Nat) (p : Bn) (f : Bool) (w : World) (hc : w.cell? ⟨cb, 0, none⟩ = some (.func (.func g) #[] #[.pointer (some ⟨xb, 0, none⟩)])) (hcf : ∀ args w, (callFunc g args).run Tryz.prog w = .ok (.enter g args) w)
    (hg : ∀ w', Below w.heap.size w w' → Calls Tryz.prog g #[bnV p, .pointer (some ⟨xb, 0, none⟩)] w' fun e w'' => e = .returned (.bool f) ∧ Below w'.heap.size w' w'') :
    Calls Tryz.prog 142 #[bnV p, .pointer (some ⟨cb, 0, none⟩)] w fun e w' => e = .returned (.bool (!f)) ∧ Below w.heap.size w w' := by
  have HG := Lib.hid hg
  have hl : cb < w.heap.size := World.block_lt_of_cell? w _ hc
  clear hg
  go_enter Tryz.func142, Tryz.ntmps142
  go_wp2_with fail
  refine (HG.out _ (by repeat (first | (with_reducible first | exact Below.refl _ _ | refine Below.drew ?_ | refine below_drewN ?_ _) | ((with_reducible first | refine Lc ?_ ?_ _ | refine Ls ?_ ?_ _ | refine Lv (by assumption) ?_ ?_); · first | exact Nat.le_refl _ | omega | (simp; done) | (simp; omega) | (simp at *; omega))))).mono ?_
  rintro e w1 ⟨rfl, hb1⟩
  go_wp2_with fail
  go_ret
  exact ⟨rfl, (by repeat (first | (with_reducible first | exact Below.refl _ _ | refine Below.drew ?_ | refine below_drewN ?_ _) | ((with_reducible first | refine Lc ?_ ?_ _ | refine Ls ?_ ?_ _ | refine Lv (by assumption) ?_ ?_); · first | exact Nat.le_refl _ | omega | (simp; done) | (simp; omega) | (simp at *; omega))))⟩

set_option maxRecDepth 100000 in
set_option maxHeartbeats 1000000 in
/-- bin.every -/
theorem every_bnC (A : Option Addr) (n c : Nat) (P : Nat → Bn) (W : World) (hr : BnRow W W.heap.size A n P) (hn : n ≤ 1000) (g xb : Nat) (f : Nat → Bool)
    (hcf : ∀ args w, (callFunc g args).run Tryz.prog w = .ok (.enter g args) w)
    (hg : ∀ k, k < n → ∀ w, Below W.heap.size W w → Calls Tryz.prog g #[bnV (P k), .pointer (some ⟨xb, 0, none⟩)] w fun e w' => e = .returned (.bool (f k)) ∧ Below w.heap.size w w') :
    Calls Tryz.prog 111 #[.slice A n c, .func (.func g) #[] #[.pointer (some ⟨xb, 0, none⟩)]] W fun e w' => e = .returned (.bool (allN f n)) ∧ Below W.heap.size W w' := by
  have hb0 : Below W.heap.size W (W.alloc (.cells #[.func (.func g) #[] #[.pointer (some ⟨xb, 0, none⟩)]] 174)) := (Below.refl _ _).alloc (Nat.le_refl _) _
  have H := Lib.hid (has_bn A n c P (W.alloc (.cells #[.func (.func g) #[] #[.pointer (some ⟨xb, 0, none⟩)]] 174)) ((hr.below hb0).mono (by simp)) hn 142 W.heap.size (fun k => !f k) (enters_of Tryz.func142 (by kernel_rfl) rfl)
    (fun k hk w hb => not_bnC g W.heap.size xb (P k) (f k) w ((hb.cell (p := ⟨W.heap.size, 0, none⟩) (by simp)).trans (by simp)) hcf (fun w' hb' => hg k hk w' (hb0.trans ((hb.mono (by simp)).trans (hb'.mono (by have := hb.size; simp at this; omega)))))))
  have HE := Lib.hid (idx_every f n)
  clear hr hg hcf hb0
  go_enter Tryz.func111, Tryz.ntmps111
  go_wp2_with fail
  refine H.out.mono ?_
  rintro e w1 ⟨rfl, hb1⟩
  go_wp2_with fail
  go_ret
  exact ⟨by rw [← HE.out]; rfl, (by repeat (first | (with_reducible first | exact Below.refl _ _ | refine Below.drew ?_ | refine below_drewN ?_ _) | ((with_reducible first | refine Lc ?_ ?_ _ | refine Ls ?_ ?_ _ | refine Lv (by assumption) ?_ ?_); · first | exact Nat.le_refl _ | omega | (simp; done) | (simp; omega) | (simp at *; omega))))⟩

set_option maxRecDepth 100000 in
set_option maxHeartbeats 1000000 in
/-- the closure of bin.every -/
theorem not_wg (g cb : Nat) (p : Wg) (f : Bool) (w : World) (hc : w.cell? ⟨cb, 0, none⟩ = some (.func (.func g) #[] #[])) (hcf : ∀ args w, (callFunc g args).run Tryz.prog w = .ok (.enter g args) w)
    (hg : ∀ w', Below w.heap.size w w' → Calls Tryz.prog g #[wgV p] w' fun e w'' => e = .returned (.bool f) ∧ Below w'.heap.size w' w'') :
    Calls Tryz.prog 146 #[wgV p, .pointer (some ⟨cb, 0, none⟩)] w fun e w' => e = .returned (.bool (!f)) ∧ Below w.heap.size w w' := by
  have HG := Lib.hid hg
  have hl : cb < w.heap.size := World.block_lt_of_cell? w _ hc
  clear hg
  go_enter Tryz.func146, Tryz.ntmps146
  go_wp2_with fail
  refine (HG.out _ (by repeat (first | (with_reducible first | exact Below.refl _ _ | refine Below.drew ?_ | refine below_drewN ?_ _) | ((with_reducible first | refine Lc ?_ ?_ _ | refine Ls ?_ ?_ _ | refine Lv (by assumption) ?_ ?_); · first | exact Nat.le_refl _ | omega | (simp; done) | (simp; omega) | (simp at *; omega))))).mono ?_
  rintro e w1 ⟨rfl, hb1⟩
  go_wp2_with fail
  go_ret
  exact ⟨rfl, (by repeat (first | (with_reducible first | exact Below.refl _ _ | refine Below.drew ?_ | refine below_drewN ?_ _) | ((with_reducible first | refine Lc ?_ ?_ _ | refine Ls ?_ ?_ _ | refine Lv (by assumption) ?_ ?_); · first | exact Nat.le_refl _ | omega | (simp; done) | (simp; omega) | (simp at *; omega))))⟩

set_option maxRecDepth 100000 in
set_option maxHeartbeats 1000000 in
/-- bin.every -/
theorem every_wg (A : Option Addr) (n c : Nat) (P : Nat → Wg) (W : World) (hr : WgRow W W.heap.size A n P) (hn : n ≤ 1000) (g : Nat) (f : Nat → Bool)
    (hcf : ∀ args w, (callFunc g args).run Tryz.prog w = .ok (.enter g args) w)
    (hg : ∀ k, k < n → ∀ w, Below W.heap.size W w → Calls Tryz.prog g #[wgV (P k)] w fun e w' => e = .returned (.bool (f k)) ∧ Below w.heap.size w w') :
    Calls Tryz.prog 114 #[.slice A n c, .func (.func g) #[] #[]] W fun e w' => e = .returned (.bool (allN f n)) ∧ Below W.heap.size W w' := by
  have hb0 : Below W.heap.size W (W.alloc (.cells #[.func (.func g) #[] #[]] 176)) := (Below.refl _ _).alloc (Nat.le_refl _) _
  have H := Lib.hid (has_wg A n c P (W.alloc (.cells #[.func (.func g) #[] #[]] 176)) ((hr.below hb0).mono (by simp)) hn 146 W.heap.size (fun k => !f k) (enters_of Tryz.func146 (by kernel_rfl) rfl)
    (fun k hk w hb => not_wg g W.heap.size (P k) (f k) w ((hb.cell (p := ⟨W.heap.size, 0, none⟩) (by simp)).trans (by simp)) hcf (fun w' hb' => hg k hk w' (hb0.trans ((hb.mono (by simp)).trans (hb'.mono (by have := hb.size; simp at this; omega)))))))
  have HE := Lib.hid (idx_every f n)
  clear hr hg hcf hb0
  go_enter Tryz.func114, Tryz.ntmps114
  go_wp2_with fail
  refine H.out.mono ?_
  rintro e w1 ⟨rfl, hb1⟩
  go_wp2_with fail
  go_ret
  exact ⟨by rw [← HE.out]; rfl, (by repeat (first | (with_reducible first | exact Below.refl _ _ | refine Below.drew ?_ | refine below_drewN ?_ _) | ((with_reducible first | refine Lc ?_ ?_ _ | refine Ls ?_ ?_ _ | refine Lv (by assumption) ?_ ?_); · first | exact Nat.le_refl _ | omega | (simp; done) | (simp; omega) | (simp at *; omega))))⟩

set_option maxRecDepth 100000 in
set_option maxHeartbeats 1000000 in
/-- the closure of bin.every -/
theorem not_wgC (g cb xb : Nat) (p : Wg) (f : Bool) (w : World) (hc : w.cell? ⟨cb, 0, none⟩ = some (.func (.func g) #[] #[.pointer (some ⟨xb, 0, none⟩)])) (hcf : ∀ args w, (callFunc g args).run Tryz.prog w = .ok (.enter g args) w)
    (hg : ∀ w', Below w.heap.size w w' → Calls Tryz.prog g #[wgV p, .pointer (some ⟨xb, 0, none⟩)] w' fun e w'' => e = .returned (.bool f) ∧ Below w'.heap.size w' w'') :
    Calls Tryz.prog 146 #[wgV p, .pointer (some ⟨cb, 0, none⟩)] w fun e w' => e = .returned (.bool (!f)) ∧ Below w.heap.size w w' := by
  have HG := Lib.hid hg
  have hl : cb < w.heap.size := World.block_lt_of_cell? w _ hc
  clear hg
  go_enter Tryz.func146, Tryz.ntmps146
  go_wp2_with fail
  refine (HG.out _ (by repeat (first | (with_reducible first | exact Below.refl _ _ | refine Below.drew ?_ | refine below_drewN ?_ _) | ((with_reducible first | refine Lc ?_ ?_ _ | refine Ls ?_ ?_ _ | refine Lv (by assumption) ?_ ?_); · first | exact Nat.le_refl _ | omega | (simp; done) | (simp; omega) | (simp at *; omega))))).mono ?_
  rintro e w1 ⟨rfl, hb1⟩
  go_wp2_with fail
  go_ret
  exact ⟨rfl, (by repeat (first | (with_reducible first | exact Below.refl _ _ | refine Below.drew ?_ | refine below_drewN ?_ _) | ((with_reducible first | refine Lc ?_ ?_ _ | refine Ls ?_ ?_ _ | refine Lv (by assumption) ?_ ?_); · first | exact Nat.le_refl _ | omega | (simp; done) | (simp; omega) | (simp at *; omega))))⟩

set_option maxRecDepth 100000 in
set_option maxHeartbeats 1000000 in
/-- bin.every -/
theorem every_wgC (A : Option Addr) (n c : Nat) (P : Nat → Wg) (W : World) (hr : WgRow W W.heap.size A n P) (hn : n ≤ 1000) (g xb : Nat) (f : Nat → Bool)
    (hcf : ∀ args w, (callFunc g args).run Tryz.prog w = .ok (.enter g args) w)
    (hg : ∀ k, k < n → ∀ w, Below W.heap.size W w → Calls Tryz.prog g #[wgV (P k), .pointer (some ⟨xb, 0, none⟩)] w fun e w' => e = .returned (.bool (f k)) ∧ Below w.heap.size w w') :
    Calls Tryz.prog 114 #[.slice A n c, .func (.func g) #[] #[.pointer (some ⟨xb, 0, none⟩)]] W fun e w' => e = .returned (.bool (allN f n)) ∧ Below W.heap.size W w' := by
  have hb0 : Below W.heap.size W (W.alloc (.cells #[.func (.func g) #[] #[.pointer (some ⟨xb, 0, none⟩)]] 176)) := (Below.refl _ _).alloc (Nat.le_refl _) _
  have H := Lib.hid (has_wg A n c P (W.alloc (.cells #[.func (.func g) #[] #[.pointer (some ⟨xb, 0, none⟩)]] 176)) ((hr.below hb0).mono (by simp)) hn 146 W.heap.size (fun k => !f k) (enters_of Tryz.func146 (by kernel_rfl) rfl)
    (fun k hk w hb => not_wgC g W.heap.size xb (P k) (f k) w ((hb.cell (p := ⟨W.heap.size, 0, none⟩) (by simp)).trans (by simp)) hcf (fun w' hb' => hg k hk w' (hb0.trans ((hb.mono (by simp)).trans (hb'.mono (by have := hb.size; simp at this; omega)))))))
  have HE := Lib.hid (idx_every f n)
  clear hr hg hcf hb0
  go_enter Tryz.func114, Tryz.ntmps114
  go_wp2_with fail
  refine H.out.mono ?_
  rintro e w1 ⟨rfl, hb1⟩
  go_wp2_with fail
  go_ret
  exact ⟨by rw [← HE.out]; rfl, (by repeat (first | (with_reducible first | exact Below.refl _ _ | refine Below.drew ?_ | refine below_drewN ?_ _) | ((with_reducible first | refine Lc ?_ ?_ _ | refine Ls ?_ ?_ _ | refine Lv (by assumption) ?_ ?_); · first | exact Nat.le_refl _ | omega | (simp; done) | (simp; omega) | (simp at *; omega))))⟩

set_option maxRecDepth 100000 in
set_option maxHeartbeats 1000000 in
/-- the closure of bin.every -/
theorem not_kd (g cb : Nat) (p : Int) (f : Bool) (w : World) (hc : w.cell? ⟨cb, 0, none⟩ = some (.func (.func g) #[] #[])) (hcf : ∀ args w, (callFunc g args).run Tryz.prog w = .ok (.enter g args) w)
    (hg : ∀ w', Below w.heap.size w w' → Calls Tryz.prog g #[.int .i64 p] w' fun e w'' => e = .returned (.bool f) ∧ Below w'.heap.size w' w'') :
    Calls Tryz.prog 148 #[.int .i64 p, .pointer (some ⟨cb, 0, none⟩)] w fun e w' => e = .returned (.bool (!f)) ∧ Below w.heap.size w w' := by
  have HG := Lib.hid hg
  have hl : cb < w.heap.size := World.block_lt_of_cell? w _ hc
  clear hg
  go_enter Tryz.func148, Tryz.ntmps148
  go_wp2_with fail
  refine (HG.out _ (by repeat (first | (with_reducible first | exact Below.refl _ _ | refine Below.drew ?_ | refine below_drewN ?_ _) | ((with_reducible first | refine Lc ?_ ?_ _ | refine Ls ?_ ?_ _ | refine Lv (by assumption) ?_ ?_); · first | exact Nat.le_refl _ | omega | (simp; done) | (simp; omega) | (simp at *; omega))))).mono ?_
  rintro e w1 ⟨rfl, hb1⟩
  go_wp2_with fail
  go_ret
  exact ⟨rfl, (by repeat (first | (with_reducible first | exact Below.refl _ _ | refine Below.drew ?_ | refine below_drewN ?_ _) | ((with_reducible first | refine Lc ?_ ?_ _ | refine Ls ?_ ?_ _ | refine Lv (by assumption) ?_ ?_); · first | exact Nat.le_refl _ | omega | (simp; done) | (simp; omega) | (simp at *; omega))))⟩

set_option maxRecDepth 100000 in
set_option maxHeartbeats 1000000 in
/-- bin.every -/
theorem every_kd (A : Option Addr) (n c : Nat) (P : Nat → Int) (W : World) (hr : IntRow W W.heap.size A n P) (hn : n ≤ 1000) (g : Nat) (f : Nat → Bool)
    (hcf : ∀ args w, (callFunc g args).run Tryz.prog w = .ok (.enter g args) w)
    (hg : ∀ k, k < n → ∀ w, Below W.heap.size W w → Calls Tryz.prog g #[.int .i64 (P k)] w fun e w' => e = .returned (.bool (f k)) ∧ Below w.heap.size w w') :
    Calls Tryz.prog 116 #[.slice A n c, .func (.func g) #[] #[]] W fun e w' => e = .returned (.bool (allN f n)) ∧ Below W.heap.size W w' := by
  have hb0 : Below W.heap.size W (W.alloc (.cells #[.func (.func g) #[] #[]] 178)) := (Below.refl _ _).alloc (Nat.le_refl _) _
  have H := Lib.hid (has_kd A n c P (W.alloc (.cells #[.func (.func g) #[] #[]] 178)) ((hr.below hb0).mono (by simp)) hn 148 W.heap.size (fun k => !f k) (enters_of Tryz.func148 (by kernel_rfl) rfl)
    (fun k hk w hb => not_kd g W.heap.size (P k) (f k) w ((hb.cell (p := ⟨W.heap.size, 0, none⟩) (by simp)).trans (by simp)) hcf (fun w' hb' => hg k hk w' (hb0.trans ((hb.mono (by simp)).trans (hb'.mono (by have := hb.size; simp at this; omega)))))))
  have HE := Lib.hid (idx_every f n)
  clear hr hg hcf hb0
  go_enter Tryz.func116, Tryz.ntmps116
  go_wp2_with fail
  refine H.out.mono ?_
  rintro e w1 ⟨rfl, hb1⟩
  go_wp2_with fail
  go_ret
  exact ⟨by rw [← HE.out]; rfl, (by repeat (first | (with_reducible first | exact Below.refl _ _ | refine Below.drew ?_ | refine below_drewN ?_ _) | ((with_reducible first | refine Lc ?_ ?_ _ | refine Ls ?_ ?_ _ | refine Lv (by assumption) ?_ ?_); · first | exact Nat.le_refl _ | omega | (simp; done) | (simp; omega) | (simp at *; omega))))⟩

set_option maxRecDepth 100000 in
set_option maxHeartbeats 1000000 in
/-- the closure of bin.every -/
theorem not_sp (g cb : Nat) (p : Sp) (f : Bool) (w : World) (hc : w.cell? ⟨cb, 0, none⟩ = some (.func (.func g) #[] #[])) (hcf : ∀ args w, (callFunc g args).run Tryz.prog w = .ok (.enter g args) w)
    (hg : ∀ w', Below w.heap.size w w' → Calls Tryz.prog g #[spV p] w' fun e w'' => e = .returned (.bool f) ∧ Below w'.heap.size w' w'') :
    Calls Tryz.prog 158 #[spV p, .pointer (some ⟨cb, 0, none⟩)] w fun e w' => e = .returned (.bool (!f)) ∧ Below w.heap.size w w' := by
  have HG := Lib.hid hg
  have hl : cb < w.heap.size := World.block_lt_of_cell? w _ hc
  clear hg
  go_enter Tryz.func158, Tryz.ntmps158
  go_wp2_with fail
  refine (HG.out _ (by repeat (first | (with_reducible first | exact Below.refl _ _ | refine Below.drew ?_ | refine below_drewN ?_ _) | ((with_reducible first | refine Lc ?_ ?_ _ | refine Ls ?_ ?_ _ | refine Lv (by assumption) ?_ ?_); · first | exact Nat.le_refl _ | omega | (simp; done) | (simp; omega) | (simp at *; omega))))).mono ?_
  rintro e w1 ⟨rfl, hb1⟩
  go_wp2_with fail
  go_ret
  exact ⟨rfl, (by repeat (first | (with_reducible first | exact Below.refl _ _ | refine Below.drew ?_ | refine below_drewN ?_ _) | ((with_reducible first | refine Lc ?_ ?_ _ | refine Ls ?_ ?_ _ | refine Lv (by assumption) ?_ ?_); · first | exact Nat.le_refl _ | omega | (simp; done) | (simp; omega) | (simp at *; omega))))⟩

set_option maxRecDepth 100000 in
set_option maxHeartbeats 1000000 in
/-- bin.every -/
theorem every_sp (A : Option Addr) (n c : Nat) (P : Nat → Sp) (W : World) (hr : SpRow W W.heap.size A n P) (hn : n ≤ 1000) (g : Nat) (f : Nat → Bool)
    (hcf : ∀ args w, (callFunc g args).run Tryz.prog w = .ok (.enter g args) w)
    (hg : ∀ k, k < n → ∀ w, Below W.heap.size W w → Calls Tryz.prog g #[spV (P k)] w fun e w' => e = .returned (.bool (f k)) ∧ Below w.heap.size w w') :
    Calls Tryz.prog 143 #[.slice A n c, .func (.func g) #[] #[]] W fun e w' => e = .returned (.bool (allN f n)) ∧ Below W.heap.size W w' := by
  have hb0 : Below W.heap.size W (W.alloc (.cells #[.func (.func g) #[] #[]] 201)) := (Below.refl _ _).alloc (Nat.le_refl _) _
  have H := Lib.hid (has_sp A n c P (W.alloc (.cells #[.func (.func g) #[] #[]] 201)) ((hr.below hb0).mono (by simp)) hn 158 W.heap.size (fun k => !f k) (enters_of Tryz.func158 (by kernel_rfl) rfl)
    (fun k hk w hb => not_sp g W.heap.size (P k) (f k) w ((hb.cell (p := ⟨W.heap.size, 0, none⟩) (by simp)).trans (by simp)) hcf (fun w' hb' => hg k hk w' (hb0.trans ((hb.mono (by simp)).trans (hb'.mono (by have := hb.size; simp at this; omega)))))))
  have HE := Lib.hid (idx_every f n)
  clear hr hg hcf hb0
  go_enter Tryz.func143, Tryz.ntmps143
  go_wp2_with fail
  refine H.out.mono ?_
  rintro e w1 ⟨rfl, hb1⟩
  go_wp2_with fail
  go_ret
  exact ⟨by rw [← HE.out]; rfl, (by repeat (first | (with_reducible first | exact Below.refl _ _ | refine Below.drew ?_ | refine below_drewN ?_ _) | ((with_reducible first | refine Lc ?_ ?_ _ | refine Ls ?_ ?_ _ | refine Lv (by assumption) ?_ ?_); · first | exact Nat.le_refl _ | omega | (simp; done) | (simp; omega) | (simp at *; omega))))⟩

set_option maxRecDepth 100000 in
set_option maxHeartbeats 1000000 in
/-- the closure of bin.every -/
theorem not_int (g cb : Nat) (p : Int) (f : Bool) (w : World) (hc : w.cell? ⟨cb, 0, none⟩ = some (.func (.func g) #[] #[])) (hcf : ∀ args w, (callFunc g args).run Tryz.prog w = .ok (.enter g args) w)
    (hg : ∀ w', Below w.heap.size w w' → Calls Tryz.prog g #[.int .i64 p] w' fun e w'' => e = .returned (.bool f) ∧ Below w'.heap.size w' w'') :
    Calls Tryz.prog 132 #[.int .i64 p, .pointer (some ⟨cb, 0, none⟩)] w fun e w' => e = .returned (.bool (!f)) ∧ Below w.heap.size w w' := by
  have HG := Lib.hid hg
  have hl : cb < w.heap.size := World.block_lt_of_cell? w _ hc
  clear hg
  go_enter Tryz.func132, Tryz.ntmps132
  go_wp2_with fail
  refine (HG.out _ (by repeat (first | (with_reducible first | exact Below.refl _ _ | refine Below.drew ?_ | refine below_drewN ?_ _) | ((with_reducible first | refine Lc ?_ ?_ _ | refine Ls ?_ ?_ _ | refine Lv (by assumption) ?_ ?_); · first | exact Nat.le_refl _ | omega | (simp; done) | (simp; omega) | (simp at *; omega))))).mono ?_
  rintro e w1 ⟨rfl, hb1⟩
  go_wp2_with fail
  go_ret
  exact ⟨rfl, (by repeat (first | (with_reducible first | exact Below.refl _ _ | refine Below.drew ?_ | refine below_drewN ?_ _) | ((with_reducible first | refine Lc ?_ ?_ _ | refine Ls ?_ ?_ _ | refine Lv (by assumption) ?_ ?_); · first | exact Nat.le_refl _ | omega | (simp; done) | (simp; omega) | (simp at *; omega))))⟩

set_option maxRecDepth 100000 in
set_option maxHeartbeats 1000000 in
/-- bin.every -/
theorem every_int (A : Option Addr) (n c : Nat) (P : Nat → Int) (W : World) (hr : IntRow W W.heap.size A n P) (hn : n ≤ 1000) (g : Nat) (f : Nat → Bool)
    (hcf : ∀ args w, (callFunc g args).run Tryz.prog w = .ok (.enter g args) w)
    (hg : ∀ k, k < n → ∀ w, Below W.heap.size W w → Calls Tryz.prog g #[.int .i64 (P k)] w fun e w' => e = .returned (.bool (f k)) ∧ Below w.heap.size w w') :
    Calls Tryz.prog 82 #[.slice A n c, .func (.func g) #[] #[]] W fun e w' => e = .returned (.bool (allN f n)) ∧ Below W.heap.size W w' := by
  have hb0 : Below W.heap.size W (W.alloc (.cells #[.func (.func g) #[] #[]] 140)) := (Below.refl _ _).alloc (Nat.le_refl _) _
  have H := Lib.hid (has_int A n c P (W.alloc (.cells #[.func (.func g) #[] #[]] 140)) ((hr.below hb0).mono (by simp)) hn 132 W.heap.size (fun k => !f k) (enters_of Tryz.func132 (by kernel_rfl) rfl)
    (fun k hk w hb => not_int g W.heap.size (P k) (f k) w ((hb.cell (p := ⟨W.heap.size, 0, none⟩) (by simp)).trans (by simp)) hcf (fun w' hb' => hg k hk w' (hb0.trans ((hb.mono (by simp)).trans (hb'.mono (by have := hb.size; simp at this; omega)))))))
  have HE := Lib.hid (idx_every f n)
  clear hr hg hcf hb0
  go_enter Tryz.func82, Tryz.ntmps82
  go_wp2_with fail
  refine H.out.mono ?_
  rintro e w1 ⟨rfl, hb1⟩
  go_wp2_with fail
  go_ret
  exact ⟨by rw [← HE.out]; rfl, (by repeat (first | (with_reducible first | exact Below.refl _ _ | refine Below.drew ?_ | refine below_drewN ?_ _) | ((with_reducible first | refine Lc ?_ ?_ _ | refine Ls ?_ ?_ _ | refine Lv (by assumption) ?_ ?_); · first | exact Nat.le_refl _ | omega | (simp; done) | (simp; omega) | (simp at *; omega))))⟩

set_option maxRecDepth 100000 in
set_option maxHeartbeats 1000000 in
/-- the closure of bin.every -/
theorem not_fcC (g cb xb : Nat) (p : Fc) (f : Bool) (w : World) (hc : w.cell? ⟨cb, 0, none⟩ = some (.func (.func g) #[] #[.pointer (some ⟨xb, 0, none⟩)])) (hcf : ∀ args w, (callFunc g args).run Tryz.prog w = .ok (.enter g args) w)
    (hg : ∀ w', Below w.heap.size w w' → Calls Tryz.prog g #[fcV p, .pointer (some ⟨xb, 0, none⟩)] w' fun e w'' => e = .returned (.bool f) ∧ Below w'.heap.size w' w'') :
    Calls Tryz.prog 155 #[fcV p, .pointer (some ⟨cb, 0, none⟩)] w fun e w' => e = .returned (.bool (!f)) ∧ Below w.heap.size w w' := by
  have HG := Lib.hid hg
  have hl : cb < w.heap.size := World.block_lt_of_cell? w _ hc
  clear hg
  go_enter Tryz.func155, Tryz.ntmps155
  go_wp2_with fail
  refine (HG.out _ (by repeat (first | (with_reducible first | exact Below.refl _ _ | refine Below.drew ?_ | refine below_drewN ?_ _) | ((with_reducible first | refine Lc ?_ ?_ _ | refine Ls ?_ ?_ _ | refine Lv (by assumption) ?_ ?_); · first | exact Nat.le_refl _ | omega | (simp; done) | (simp; omega) | (simp at *; omega))))).mono ?_
  rintro e w1 ⟨rfl, hb1⟩
  go_wp2_with fail
  go_ret
  exact ⟨rfl, (by repeat (first | (with_reducible first | exact Below.refl _ _ | refine Below.drew ?_ | refine below_drewN ?_ _) | ((with_reducible first | refine Lc ?_ ?_ _ | refine Ls ?_ ?_ _ | refine Lv (by assumption) ?_ ?_); · first | exact Nat.le_refl _ | omega | (simp; done) | (simp; omega) | (simp at *; omega))))⟩

set_option maxRecDepth 100000 in
set_option maxHeartbeats 1000000 in
/-- bin.every -/
theorem every_fcC (A : Option Addr) (n c : Nat) (P : Nat → Fc) (W : World) (hr : FcRow W W.heap.size A n P) (hn : n ≤ 1000) (g xb : Nat) (f : Nat → Bool)
    (hcf : ∀ args w, (callFunc g args).run Tryz.prog w = .ok (.enter g args) w)
    (hg : ∀ k, k < n → ∀ w, Below W.heap.size W w → Calls Tryz.prog g #[fcV (P k), .pointer (some ⟨xb, 0, none⟩)] w fun e w' => e = .returned (.bool (f k)) ∧ Below w.heap.size w w') :
    Calls Tryz.prog 138 #[.slice A n c, .func (.func g) #[] #[.pointer (some ⟨xb, 0, none⟩)]] W fun e w' => e = .returned (.bool (allN f n)) ∧ Below W.heap.size W w' := by
  have hb0 : Below W.heap.size W (W.alloc (.cells #[.func (.func g) #[] #[.pointer (some ⟨xb, 0, none⟩)]] 99)) := (Below.refl _ _).alloc (Nat.le_refl _) _
  have H := Lib.hid (has_fc A n c P (W.alloc (.cells #[.func (.func g) #[] #[.pointer (some ⟨xb, 0, none⟩)]] 99)) ((hr.below hb0).mono (by simp)) hn 155 W.heap.size (fun k => !f k) (enters_of Tryz.func155 (by kernel_rfl) rfl)
    (fun k hk w hb => not_fcC g W.heap.size xb (P k) (f k) w ((hb.cell (p := ⟨W.heap.size, 0, none⟩) (by simp)).trans (by simp)) hcf (fun w' hb' => hg k hk w' (hb0.trans ((hb.mono (by simp)).trans (hb'.mono (by have := hb.size; simp at this; omega)))))))
  have HE := Lib.hid (idx_every f n)
  clear hr hg hcf hb0
  go_enter Tryz.func138, Tryz.ntmps138
  go_wp2_with fail
  refine H.out.mono ?_
  rintro e w1 ⟨rfl, hb1⟩
  go_wp2_with fail
  go_ret
  exact ⟨by rw [← HE.out]; rfl, (by repeat (first | (with_reducible first | exact Below.refl _ _ | refine Below.drew ?_ | refine below_drewN ?_ _) | ((with_reducible first | refine Lc ?_ ?_ _ | refine Ls ?_ ?_ _ | refine Lv (by assumption) ?_ ?_); · first | exact Nat.le_refl _ | omega | (simp; done) | (simp; omega) | (simp at *; omega))))⟩
end Go.Proofs.YtnnikeolgknfoaaGreat
