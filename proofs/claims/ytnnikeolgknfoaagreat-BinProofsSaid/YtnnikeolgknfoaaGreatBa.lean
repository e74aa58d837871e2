/- Contracts of the small functions of package bin: in, sum, ends, gets, the span of a bin. -/
import Derived.Test.YtnnikeolgknfoaaGreatBp
import Derived.Test.YtnnikeolgknfoaaGreatBe
set_option linter.unusedSimpArgs false
set_option linter.unusedVariables false
namespace Go.Proofs.YtnnikeolgknfoaaGreat
open Go.RowKit Go.Shelf

theorem in_any (n lo hi : Int) (w : World) :
    Calls Tryz.prog 84 #[.int .i64 n, .int .i64 lo, .int .i64 hi] w fun e w' => e = .returned (.bool (inB n lo hi)) ∧ w = w' := by
  by_cases h1 : lo ≤ n
  · by_cases h2 : n ≤ hi
    · go_enter Tryz.func84, Tryz.ntmps84
      go_wp2
      go_ret
      exact ⟨by simp [inB]; omega, rfl⟩
    · go_enter Tryz.func84, Tryz.ntmps84
      go_wp2
      go_ret
      exact ⟨by simp [inB]; omega, rfl⟩
  · go_enter Tryz.func84, Tryz.ntmps84
    go_wp2
    go_ret
    exact ⟨by simp [inB]; omega, rfl⟩
theorem inBel (n lo hi : Int) (w : World) :
    Calls Tryz.prog 84 #[.int .i64 n, .int .i64 lo, .int .i64 hi] w fun e w' => e = .returned (.bool (inB n lo hi)) ∧ Below w.heap.size w w' :=
  (in_any n lo hi w).mono (fun e w' h => ⟨h.1, by rw [← h.2]; exact Below.refl _ _⟩)

set_option maxRecDepth 100000 in
set_option maxHeartbeats 1000000 in
/-- bin.sum -/
theorem sum_any (A : Option Addr) (n c : Nat) (X : Nat → Int) (W : World) (hl : IntRow W W.heap.size A n X) (hn : n ≤ 1000) (hx : ∀ k, k < n → -1000000 ≤ X k ∧ X k ≤ 1000000) :
    Calls Tryz.prog 85 #[.slice A n c] W fun e w' => e = .returned (.int .i64 (sumN X n)) ∧ W = w' := by
  have HL := Lib.hid hl
  have HX := Lib.hid hx
  clear hl hx
  go_enter Tryz.func85, Tryz.ntmps85
  go_wp2
  go_loop [3, 5, 8] (fun t u i => ∃ k : Nat, k ≤ n ∧ i = .int .i64 k ∧ t = .int .i64 (sumN X k)) (fun _ _ i => n - (intOf i).toNat)
  case atStart => exact ⟨0, Nat.zero_le _, rfl, rfl⟩
  case round =>
    obtain ⟨k, hk, rfl, rfl⟩ := hrel
    by_cases hlt : k < n
    · obtain ⟨b, o, rfl, hbl, c0⟩ := HL.out k hlt
      have b0 := HX.out k hlt
      have b1 := sumN_bd X k (fun j hj => HX.out j (by omega))
      have ew : IntKind.i64.wrap (sumN X k + X k) = sumN X k + X k := IntWalk.i64_in _ (by omega)
      have hk0 : (0 : Int) ≤ (k : Int) := by omega
      have hkn : (k : Int) < (n : Int) := by omega
      clear b0 b1
      go_wp2
      go_round
      case rel => exact ⟨k + 1, by omega, by go_num, rfl⟩
      case measure => simp [intOf]; omega
    · obtain rfl : k = n := by omega
      have hge : ¬ (k : Int) < (k : Int) := by omega
      go_wp2
      go_ret
      exact ⟨rfl, rfl⟩
theorem sumC (A : Option Addr) (n c : Nat) (X : Nat → Int) (S : Int) (W : World) (hl : IntRow W W.heap.size A n X) (hn : n ≤ 1000) (hx : ∀ k, k < n → -1000000 ≤ X k ∧ X k ≤ 1000000) (hS : sumN X n = S) :
    Calls Tryz.prog 85 #[.slice A n c] W fun e w' => e = .returned (.int .i64 S) ∧ W = w' := by
  rw [← hS]
  exact sum_any A n c X W hl hn hx
/-- two numbers in a new block -/
theorem sum2n (w : World) (c T : Nat) (x0 x1 : Int) (g0 : -1000000 ≤ x0 ∧ x0 ≤ 1000000) (g1 : -1000000 ≤ x1 ∧ x1 ≤ 1000000) :
    Calls Tryz.prog 85 #[.slice (some ⟨w.heap.size, 0, none⟩) 2 c] (w.alloc (.cells #[.int .i64 x0, .int .i64 x1] T)) fun e w' => e = .returned (.int .i64 (x0 + x1)) ∧ w.alloc (.cells #[.int .i64 x0, .int .i64 x1] T) = w' := by
  refine sumC _ 2 c (fun k => if k = 0 then x0 else x1) (x0 + x1) _ (fun k hk => ?_) (by omega) (fun k hk => ?_) (by simp [sumN])
  · have h : k = 0 ∨ k = 1 := by omega
    rcases h with rfl | rfl <;> exact ⟨w.heap.size, 0, rfl, by simp, by simp [go_sem]⟩
  · have h : k = 0 ∨ k = 1 := by omega
    rcases h with rfl | rfl <;> simp <;> assumption
theorem sum3n (w : World) (c T : Nat) (x0 x1 x2 : Int) (g0 : -1000000 ≤ x0 ∧ x0 ≤ 1000000) (g1 : -1000000 ≤ x1 ∧ x1 ≤ 1000000) (g2 : -1000000 ≤ x2 ∧ x2 ≤ 1000000) :
    Calls Tryz.prog 85 #[.slice (some ⟨w.heap.size, 0, none⟩) 3 c] (w.alloc (.cells #[.int .i64 x0, .int .i64 x1, .int .i64 x2] T)) fun e w' => e = .returned (.int .i64 (x0 + x1 + x2)) ∧ w.alloc (.cells #[.int .i64 x0, .int .i64 x1, .int .i64 x2] T) = w' := by
  refine sumC _ 3 c (fun k => if k = 0 then x0 else if k = 1 then x1 else x2) (x0 + x1 + x2) _ (fun k hk => ?_) (by omega) (fun k hk => ?_) (by simp [sumN])
  · have h : k = 0 ∨ k = 1 ∨ k = 2 := by omega
    rcases h with rfl | rfl | rfl <;> exact ⟨w.heap.size, 0, rfl, by simp, by simp [go_sem]⟩
  · have h : k = 0 ∨ k = 1 ∨ k = 2 := by omega
    rcases h with rfl | rfl | rfl <;> simp <;> assumption

set_option maxRecDepth 100000 in
set_option maxHeartbeats 400000 in
/-- bin.ends -/
theorem ends_any (W : World) :
    Calls Tryz.prog 88 #[] W fun e W' =>
      e = .returned (.tuple #[.agg #[.func (.func 133) #[] #[]], .agg #[.func (.func 134) #[] #[]]]) ∧ Below W.heap.size W W' := by
  go_enter Tryz.func88, Tryz.ntmps88
  go_wp2
  exact bodyPost_ret (v := .tuple #[.agg #[.func (.func 133) #[] #[]], .agg #[.func (.func 134) #[] #[]]]) (by simp [results, Tryz.results88, go_sem]) rfl ⟨rfl, (by repeat (first | (with_reducible first | exact Below.refl _ _ | refine Below.drew ?_ | refine below_drewN ?_ _) | ((with_reducible first | refine Lc ?_ ?_ _ | refine Ls ?_ ?_ _ | refine Lv (by assumption) ?_ ?_); · first | exact Nat.le_refl _ | omega | (simp; done) | (simp; omega) | (simp at *; omega))))⟩
theorem end1_any (x : Sp) (W : World) : Calls Tryz.prog 133 #[spV x] W fun e W' => e = .returned (.int .i64 x.a) ∧ Below W.heap.size W W' := by
  go_enter Tryz.func133, Tryz.ntmps133
  go_wp2_with fail
  go_ret
  exact ⟨rfl, (by repeat (first | (with_reducible first | exact Below.refl _ _ | refine Below.drew ?_ | refine below_drewN ?_ _) | ((with_reducible first | refine Lc ?_ ?_ _ | refine Ls ?_ ?_ _ | refine Lv (by assumption) ?_ ?_); · first | exact Nat.le_refl _ | omega | (simp; done) | (simp; omega) | (simp at *; omega))))⟩
theorem end2_any (x : Sp) (W : World) : Calls Tryz.prog 134 #[spV x] W fun e W' => e = .returned (.int .i64 x.b) ∧ Below W.heap.size W W' := by
  go_enter Tryz.func134, Tryz.ntmps134
  go_wp2_with fail
  go_ret
  exact ⟨rfl, (by repeat (first | (with_reducible first | exact Below.refl _ _ | refine Below.drew ?_ | refine below_drewN ?_ _) | ((with_reducible first | refine Lc ?_ ?_ _ | refine Ls ?_ ?_ _ | refine Lv (by assumption) ?_ ?_); · first | exact Nat.le_refl _ | omega | (simp; done) | (simp; omega) | (simp at *; omega))))⟩
/-- what a function value of an end does -/
def EndOk (g : Nat) (E : Sp → Int) : Prop :=
  (∀ x W, Calls Tryz.prog g #[spV x] W fun e W' => e = .returned (.int .i64 (E x)) ∧ Below W.heap.size W W') ∧ (∀ args w, (callFunc g args).run Tryz.prog w = .ok (.enter g args) w) ∧ ∀ x, E x = x.a ∨ E x = x.b
theorem end_lo : EndOk 133 Sp.a := ⟨end1_any, enters_of Tryz.func133 (by kernel_rfl) rfl, fun x => .inl rfl⟩
theorem end_hi : EndOk 134 Sp.b := ⟨end2_any, enters_of Tryz.func134 (by kernel_rfl) rfl, fun x => .inr rfl⟩

set_option maxRecDepth 100000 in
set_option maxHeartbeats 1000000 in
theorem gets1_any (x : Sp) (W : World) : Calls Tryz.prog 144 #[spV x] W fun e W' => e = .returned (.bool (inB x.a 0 x.b && decide (x.b ≤ 50))) ∧ Below W.heap.size W W' := by
  cases h : inB x.a 0 x.b with
  | false =>
    go_enter Tryz.func144, Tryz.ntmps144
    go_wp2_with (go_at_call 84; refine (in_any _ _ _ _).mono ?_; rintro e w' ⟨rfl, rfl⟩)
    go_ret
    exact ⟨by simp, (by repeat (first | (with_reducible first | exact Below.refl _ _ | refine Below.drew ?_ | refine below_drewN ?_ _) | ((with_reducible first | refine Lc ?_ ?_ _ | refine Ls ?_ ?_ _ | refine Lv (by assumption) ?_ ?_); · first | exact Nat.le_refl _ | omega | (simp; done) | (simp; omega) | (simp at *; omega))))⟩
  | true =>
    go_enter Tryz.func144, Tryz.ntmps144
    go_wp2_with (go_at_call 84; refine (in_any _ _ _ _).mono ?_; rintro e w' ⟨rfl, rfl⟩)
    go_ret
    exact ⟨by simp, (by repeat (first | (with_reducible first | exact Below.refl _ _ | refine Below.drew ?_ | refine below_drewN ?_ _) | ((with_reducible first | refine Lc ?_ ?_ _ | refine Ls ?_ ?_ _ | refine Lv (by assumption) ?_ ?_); · first | exact Nat.le_refl _ | omega | (simp; done) | (simp; omega) | (simp at *; omega))))⟩

set_option maxRecDepth 100000 in
set_option maxHeartbeats 1000000 in
theorem gets_any (x : Bn) (W : World) : Calls Tryz.prog 113 #[bnV x] W fun e W' => e = .returned (.bool x.gets) ∧ Below W.heap.size W W' := by
  go_enter Tryz.func113, Tryz.ntmps113
  go_wp2_with fail
  refine (every_sp (some ⟨W.heap.size, 0, none⟩) 3 3 (fun k => ⟨x.lo k, x.hi k⟩) _ (fun k hk => ?_) (by omega) 144 (fun k => inB (x.lo k) 0 (x.hi k) && decide (x.hi k ≤ 50)) (enters_of Tryz.func144 (by kernel_rfl) rfl) (fun k hk w _ => gets1_any ⟨x.lo k, x.hi k⟩ w)).mono ?_
  · have h : k = 0 ∨ k = 1 ∨ k = 2 := by omega
    rcases h with rfl | rfl | rfl <;> exact ⟨W.heap.size, 0, rfl, by simp, by simp [go_sem], by simp [go_sem]⟩
  rintro e w1 ⟨rfl, hb1⟩
  go_wp2_with fail
  go_ret
  exact ⟨rfl, (by repeat (first | (with_reducible first | exact Below.refl _ _ | refine Below.drew ?_ | refine below_drewN ?_ _) | ((with_reducible first | refine Lc ?_ ?_ _ | refine Ls ?_ ?_ _ | refine Lv (by assumption) ?_ ?_); · first | exact Nat.le_refl _ | omega | (simp; done) | (simp; omega) | (simp at *; omega))))⟩

/-- a bin boxed -/
def BnAt (w : World) (b : Nat) (x : Bn) : Prop := (∀ k, k < 3 → w.cell? ⟨b, 2 * k, none⟩ = some (.int .i64 (x.lo k)) ∧ w.cell? ⟨b, 2 * k + 1, none⟩ = some (.int .i64 (x.hi k))) ∧ w.cell? ⟨b, 6, none⟩ = some (.int .i64 x.s)

set_option maxRecDepth 100000 in
set_option maxHeartbeats 4000000 in
/-- the closure of Bin.span -/
theorem bspan1_any (g : Nat) (E : Sp → Int) (hE : EndOk g E) (x : Bn) (dA : Option Addr) (d dc : Nat) (D : Nat → Int) (db xb : Nat) (W : World) (hx : BnAt W xb x) (hd : W.cell? ⟨db, 0, none⟩ = some (.slice dA d dc)) (hdc : d ≤ dc) (hD : IntRow W W.heap.size dA d D) (h7 : d ≤ 7) (hok : x.ok d) (hk : ∀ j, j < d → 0 ≤ D j ∧ D j ≤ 2) :
    Calls Tryz.prog 149 #[.agg #[.func (.func g) #[] #[]], .pointer (some ⟨db, 0, none⟩), .pointer (some ⟨xb, 0, none⟩)] W fun e W' => e = .returned (.int .i64 (x.tot (fun k => E ⟨x.lo k, x.hi k⟩) D (d - x.s.toNat))) ∧ Below W.heap.size W W' := by
  have HE := Lib.hid hE
  have hcf := hE.2.1
  have HX := Lib.hid hx
  have HD := Lib.hid hD
  have HK := Lib.hid hk
  have HOK := Lib.hid hok
  have hs := hok.s
  have c6 := hx.2
  have hxl := World.block_lt_of_cell? W _ c6
  have hdl := World.block_lt_of_cell? W _ hd
  dsimp only at hxl hdl
  obtain ⟨s, hs'⟩ : ∃ s : Nat, x.s = s := Int.eq_ofNat_of_zero_le hs.1
  rw [hs'] at c6 hs ⊢
  rw [Int.toNat_natCast]
  have HS := Lib.hid hs'
  have hsn : s ≤ d := by omega
  obtain ⟨L, rfl⟩ : ∃ L, d = s + L := ⟨d - s, by omega⟩
  rw [Nat.add_sub_cancel_left]
  have hsd : (s : Int) ≤ ((s + L : Nat) : Int) := by omega
  have hsc : (s : Int) ≤ (dc : Int) := by omega
  have HBD : Hid (∀ k, k ≤ L → 0 ≤ x.tot (fun k => E ⟨x.lo k, x.hi k⟩) D k ∧ x.tot (fun k => E ⟨x.lo k, x.hi k⟩) D k ≤ 350) := Lib.hid (fun k hk => by
    have := sumN_bd2 (fun j => (fun k => E ⟨x.lo k, x.hi k⟩) (D (x.s.toNat + j)).toNat) k 50 (fun j hj => by
      have h1 := HK.out (x.s.toNat + j) (by omega)
      have h2 := HOK.out.g (D (x.s.toNat + j)).toNat (by omega)
      have h3 := HE.out.2.2 ⟨x.lo (D (x.s.toNat + j)).toNat, x.hi (D (x.s.toNat + j)).toNat⟩
      dsimp only at h3 ⊢
      omega)
    unfold Bn.tot
    omega)
  clear hE hx hD hk hok hs hs'
  by_cases hL : L = 0
  · subst hL
    have h00 : ¬ (0 : Int) < 0 := by omega
    by_cases hcs : dc = s
    · go_enter Tryz.func149, Tryz.ntmps149
      go_wp2_with fail
      go_loopw [5, 13] (fun v i wr => v = .int .i64 0 ∧ i = .int .i64 0 ∧ Hid (Below W.heap.size W wr)) (fun _ _ _ => 0)
      case atStart => exact ⟨rfl, rfl, Lib.hid (by repeat (first | (with_reducible first | exact Below.refl _ _ | assumption | refine Below.drew ?_) | ((with_reducible first | refine Lc ?_ ?_ _ | refine Ls ?_ ?_ _ | refine Lv (by assumption) ?_ ?_); · first | exact Nat.le_refl _ | omega | (dsimp only; omega) | (simp only [World.size_alloc, World.size_drew, World.heap_drewN]; omega) | (simp; omega))))⟩
      case round =>
        obtain ⟨rfl, rfl, HB⟩ := hrel
        go_wp2_with fail
        go_ret
        exact ⟨rfl, HB.out⟩
    · go_enter Tryz.func149, Tryz.ntmps149
      go_wp2_with fail
      go_loopw [5, 13] (fun v i wr => v = .int .i64 0 ∧ i = .int .i64 0 ∧ Hid (Below W.heap.size W wr)) (fun _ _ _ => 0)
      case atStart => exact ⟨rfl, rfl, Lib.hid (by repeat (first | (with_reducible first | exact Below.refl _ _ | assumption | refine Below.drew ?_) | ((with_reducible first | refine Lc ?_ ?_ _ | refine Ls ?_ ?_ _ | refine Lv (by assumption) ?_ ?_); · first | exact Nat.le_refl _ | omega | (dsimp only; omega) | (simp only [World.size_alloc, World.size_drew, World.heap_drewN]; omega) | (simp; omega))))⟩
      case round =>
        obtain ⟨rfl, rfl, HB⟩ := hrel
        go_wp2_with fail
        go_ret
        exact ⟨rfl, HB.out⟩
  · obtain ⟨b, o, rfl, hbl, -⟩ := HD.out 0 (by omega)
    have hcs : ¬ dc = s := by omega
    go_enter Tryz.func149, Tryz.ntmps149
    go_wp2_with fail
    go_loopw [5, 13] (fun v i wr => ∃ k : Nat, k ≤ L ∧ i = .int .i64 k ∧ v = .int .i64 (x.tot (fun k => E ⟨x.lo k, x.hi k⟩) D k) ∧ Hid (Below W.heap.size W wr) ∧ wr.cell? ⟨W.heap.size, 0, none⟩ = some (.func (.func g) #[] #[]) ∧ W.heap.size + 1 ≤ wr.heap.size) (fun _ i _ => L - (intOf i).toNat)
    case atStart => exact ⟨0, Nat.zero_le _, rfl, rfl, Lib.hid (by repeat (first | (with_reducible first | exact Below.refl _ _ | assumption | refine Below.drew ?_) | ((with_reducible first | refine Lc ?_ ?_ _ | refine Ls ?_ ?_ _ | refine Lv (by assumption) ?_ ?_); · first | exact Nat.le_refl _ | omega | (dsimp only; omega) | (simp only [World.size_alloc, World.size_drew, World.heap_drewN]; omega) | (simp; omega)))), (by (repeat' refine And.intro ?_ ?_) <;> (repeat (first | with_reducible assumption | (simp; done) | (with_reducible first | refine Kd ?_ | refine Kn ?_ | refine Kb (by assumption) ?_) | ((with_reducible first | refine Kw ?_ ?_ | refine Fw ?_) <;> first | with_reducible rfl | (simp; done)) | (with_reducible first | refine Ka _ ?_ | refine Ks _ (by first | exact Nat.le_refl _ | omega | (simp; done) | (simp; omega)) ?_ | refine Fd ?_ | refine Fn ?_ | refine Fb (by assumption) (by first | exact Nat.le_refl _ | omega | (simp; done) | (simp; omega)) ?_ | refine Fa _ (by first | exact Nat.le_refl _ | omega | (simp; done) | (simp; omega)) ?_ | refine Fs _ ?_)))), by simp⟩
    case round =>
      obtain ⟨k, hk, rfl, rfl, HB, hg0, hsz⟩ := hrel
      by_cases hlt : k < L
      · have hk0 : (0 : Int) ≤ (k : Int) := by omega
        have hkL : (k : Int) < (L : Int) := by omega
        obtain ⟨b', o', hA, _, c0⟩ := (HD.out.below HB.out) (s + k) (by omega)
        injection hA with hA
        injection hA with hA1 hA2
        subst hA1 hA2
        rw [← Nat.add_assoc] at c0
        obtain ⟨wo, rfl⟩ : ∃ wo, wo = wr := ⟨_, rfl⟩
        have hkd := HK.out (s + k) (by omega)
        have hg := HOK.out.g (D (s + k)).toNat (by omega)
        have hXb := HX.out.1 (D (s + k)).toNat (by omega)
        have y0 := HB.out.cell (p := ⟨xb, _, none⟩) hxl |>.trans hXb.1
        have y1 := HB.out.cell (p := ⟨xb, _, none⟩) hxl |>.trans hXb.2
        obtain ⟨K, hK⟩ : ∃ K : Nat, D (s + k) = K := Int.eq_ofNat_of_zero_le hkd.1
        have hKs := Lib.hid hK
        rw [hK] at c0 hkd
        rw [hK, Int.toNat_natCast] at y0 y1 hg
        have hEb := HE.out.2.2 ⟨x.lo K, x.hi K⟩
        dsimp only at hEb
        have hbk := HBD.out k (by omega)
        have hb1 := HBD.out (k + 1) (by omega)
        have hstep : x.tot (fun k => E ⟨x.lo k, x.hi k⟩) D (k + 1) = x.tot (fun k => E ⟨x.lo k, x.hi k⟩) D k + E ⟨x.lo K, x.hi K⟩ := by
          show x.tot (fun k => E ⟨x.lo k, x.hi k⟩) D k + (fun k => E ⟨x.lo k, x.hi k⟩) (D (x.s.toNat + k)).toNat = _
          rw [HS.out, Int.toNat_natCast, hK, Int.toNat_natCast]
        have HST := Lib.hid hstep
        obtain ⟨Z, hZ⟩ : ∃ Z, Z = x.tot (fun k => E ⟨x.lo k, x.hi k⟩) D k := ⟨_, rfl⟩
        rw [← hZ] at hbk ⊢
        obtain ⟨Y, hY⟩ : ∃ Y, Y = E ⟨x.lo K, x.hi K⟩ := ⟨_, rfl⟩
        rw [← hY] at hEb
        have hcall : Hid (∀ w, Calls Tryz.prog g #[.agg #[.int .i64 (x.lo K), .int .i64 (x.hi K)]] w fun e W' => e = .returned (.int .i64 Y) ∧ Below w.heap.size w W') := Lib.hid (fun w => by rw [hY]; exact HE.out.1 ⟨x.lo K, x.hi K⟩ w)
        have hYb : 0 ≤ Y ∧ Y ≤ 50 := by omega
        have HEQ : Hid (x.tot (fun k => E ⟨x.lo k, x.hi k⟩) D (k + 1) = Z + Y) := Lib.hid (by rw [hstep, hZ, hY])
        clear hstep hZ hY hXb hK hEb hg hb1
        have h3 : K = 0 ∨ K = 1 ∨ K = 2 := by omega
        rcases h3 with rfl | rfl | rfl
        · simp only [Nat.reduceMul, Nat.reduceAdd] at y0 y1
          go_upto_region 5 with fail
          go_region_held3 (fun w' => w'.cell? ⟨W.heap.size, 0, none⟩ = some (.func (.func g) #[] #[]) ∧ w'.cell? ⟨xb, 0, none⟩ = some (.int .i64 (x.lo 0)) ∧ w'.cell? ⟨xb, 1, none⟩ = some (.int .i64 (x.hi 0))) ((go_split_ands; (repeat' refine And.intro ?_ ?_) <;> (repeat (first | with_reducible assumption | (simp; done) | (with_reducible first | refine Kd ?_ | refine Kn ?_ | refine Kb (by assumption) ?_) | ((with_reducible first | refine Kw ?_ ?_ | refine Fw ?_) <;> first | with_reducible rfl | (simp; done)) | (with_reducible first | refine Ka _ ?_ | refine Ks _ (by first | exact Nat.le_refl _ | omega | (simp; done) | (simp; omega) | (simp at *; omega)) ?_ | refine Fd ?_ | refine Fn ?_ | refine Fb (by assumption) (by first | exact Nat.le_refl _ | omega | (simp; done) | (simp; omega) | (simp at *; omega)) ?_ | refine Fa _ (by first | exact Nat.le_refl _ | omega | (simp; done) | (simp; omega) | (simp at *; omega)) ?_ | refine Fs _ ?_))))) (first | ((refine (hcall.out _).mono ?_); rintro e w1 ⟨rfl, hb1⟩; obtain ⟨hc1, hf1⟩ := bcell hb1; have hz1 := hb1.size) | (go_at_call 85; refine (sum2n _ _ _ _ _ (by omega) (by omega)).mono ?_; rintro e w' ⟨rfl, rfl⟩))
          have hall : Below wo.heap.size wo (w1.alloc (Obj.cells #[Value.int .i64 Z, Value.int .i64 Y] 3)) := (by repeat (first | (with_reducible first | exact Below.refl _ _ | refine Below.drew ?_ | refine below_drewN ?_ _) | ((with_reducible first | refine Lc ?_ ?_ _ | refine Ls ?_ ?_ _ | refine Lv (by assumption) ?_ ?_); · first | exact Nat.le_refl _ | omega | (simp; done) | (simp; omega) | (simp at *; omega))))
          have HALL := Lib.hid (HB.out.trans (hall.mono (by omega)))
          have HG := Lib.hid (Kb hall hg0)
          have hzz : W.heap.size + 1 ≤ (w1.alloc (Obj.cells #[Value.int .i64 Z, Value.int .i64 Y] 3)).heap.size := by have := hall.size; omega
          clear hall hc1 hf1 y0 y1
          go_wp2_with fail
          go_roundw
          case rel => exact ⟨k + 1, by omega, by go_num, by rw [HEQ.out], HALL, HG.out, hzz⟩
          case measure => simp [intOf]; omega
        · simp only [Nat.reduceMul, Nat.reduceAdd] at y0 y1
          go_upto_region 5 with fail
          go_region_held3 (fun w' => w'.cell? ⟨W.heap.size, 0, none⟩ = some (.func (.func g) #[] #[]) ∧ w'.cell? ⟨xb, 2, none⟩ = some (.int .i64 (x.lo 1)) ∧ w'.cell? ⟨xb, 3, none⟩ = some (.int .i64 (x.hi 1))) ((go_split_ands; (repeat' refine And.intro ?_ ?_) <;> (repeat (first | with_reducible assumption | (simp; done) | (with_reducible first | refine Kd ?_ | refine Kn ?_ | refine Kb (by assumption) ?_) | ((with_reducible first | refine Kw ?_ ?_ | refine Fw ?_) <;> first | with_reducible rfl | (simp; done)) | (with_reducible first | refine Ka _ ?_ | refine Ks _ (by first | exact Nat.le_refl _ | omega | (simp; done) | (simp; omega) | (simp at *; omega)) ?_ | refine Fd ?_ | refine Fn ?_ | refine Fb (by assumption) (by first | exact Nat.le_refl _ | omega | (simp; done) | (simp; omega) | (simp at *; omega)) ?_ | refine Fa _ (by first | exact Nat.le_refl _ | omega | (simp; done) | (simp; omega) | (simp at *; omega)) ?_ | refine Fs _ ?_))))) (first | ((refine (hcall.out _).mono ?_); rintro e w1 ⟨rfl, hb1⟩; obtain ⟨hc1, hf1⟩ := bcell hb1; have hz1 := hb1.size) | (go_at_call 85; refine (sum2n _ _ _ _ _ (by omega) (by omega)).mono ?_; rintro e w' ⟨rfl, rfl⟩))
          have hall : Below wo.heap.size wo (w1.alloc (Obj.cells #[Value.int .i64 Z, Value.int .i64 Y] 3)) := (by repeat (first | (with_reducible first | exact Below.refl _ _ | refine Below.drew ?_ | refine below_drewN ?_ _) | ((with_reducible first | refine Lc ?_ ?_ _ | refine Ls ?_ ?_ _ | refine Lv (by assumption) ?_ ?_); · first | exact Nat.le_refl _ | omega | (simp; done) | (simp; omega) | (simp at *; omega))))
          have HALL := Lib.hid (HB.out.trans (hall.mono (by omega)))
          have HG := Lib.hid (Kb hall hg0)
          have hzz : W.heap.size + 1 ≤ (w1.alloc (Obj.cells #[Value.int .i64 Z, Value.int .i64 Y] 3)).heap.size := by have := hall.size; omega
          clear hall hc1 hf1 y0 y1
          go_wp2_with fail
          go_roundw
          case rel => exact ⟨k + 1, by omega, by go_num, by rw [HEQ.out], HALL, HG.out, hzz⟩
          case measure => simp [intOf]; omega
        · simp only [Nat.reduceMul, Nat.reduceAdd] at y0 y1
          go_upto_region 5 with fail
          go_region_held3 (fun w' => w'.cell? ⟨W.heap.size, 0, none⟩ = some (.func (.func g) #[] #[]) ∧ w'.cell? ⟨xb, 4, none⟩ = some (.int .i64 (x.lo 2)) ∧ w'.cell? ⟨xb, 5, none⟩ = some (.int .i64 (x.hi 2))) ((go_split_ands; (repeat' refine And.intro ?_ ?_) <;> (repeat (first | with_reducible assumption | (simp; done) | (with_reducible first | refine Kd ?_ | refine Kn ?_ | refine Kb (by assumption) ?_) | ((with_reducible first | refine Kw ?_ ?_ | refine Fw ?_) <;> first | with_reducible rfl | (simp; done)) | (with_reducible first | refine Ka _ ?_ | refine Ks _ (by first | exact Nat.le_refl _ | omega | (simp; done) | (simp; omega) | (simp at *; omega)) ?_ | refine Fd ?_ | refine Fn ?_ | refine Fb (by assumption) (by first | exact Nat.le_refl _ | omega | (simp; done) | (simp; omega) | (simp at *; omega)) ?_ | refine Fa _ (by first | exact Nat.le_refl _ | omega | (simp; done) | (simp; omega) | (simp at *; omega)) ?_ | refine Fs _ ?_))))) (first | ((refine (hcall.out _).mono ?_); rintro e w1 ⟨rfl, hb1⟩; obtain ⟨hc1, hf1⟩ := bcell hb1; have hz1 := hb1.size) | (go_at_call 85; refine (sum2n _ _ _ _ _ (by omega) (by omega)).mono ?_; rintro e w' ⟨rfl, rfl⟩))
          have hall : Below wo.heap.size wo (w1.alloc (Obj.cells #[Value.int .i64 Z, Value.int .i64 Y] 3)) := (by repeat (first | (with_reducible first | exact Below.refl _ _ | refine Below.drew ?_ | refine below_drewN ?_ _) | ((with_reducible first | refine Lc ?_ ?_ _ | refine Ls ?_ ?_ _ | refine Lv (by assumption) ?_ ?_); · first | exact Nat.le_refl _ | omega | (simp; done) | (simp; omega) | (simp at *; omega))))
          have HALL := Lib.hid (HB.out.trans (hall.mono (by omega)))
          have HG := Lib.hid (Kb hall hg0)
          have hzz : W.heap.size + 1 ≤ (w1.alloc (Obj.cells #[Value.int .i64 Z, Value.int .i64 Y] 3)).heap.size := by have := hall.size; omega
          clear hall hc1 hf1 y0 y1
          go_wp2_with fail
          go_roundw
          case rel => exact ⟨k + 1, by omega, by go_num, by rw [HEQ.out], HALL, HG.out, hzz⟩
          case measure => simp [intOf]; omega
      · obtain rfl : k = L := by omega
        have hge : ¬ (k : Int) < (k : Int) := by omega
        go_wp2_with fail
        go_ret
        exact ⟨rfl, HB.out⟩

theorem bnAt_new (w : World) (x : Bn) (T : TypeId) : BnAt (w.alloc (.cells #[.int .i64 (x.lo 0), .int .i64 (x.hi 0), .int .i64 (x.lo 1), .int .i64 (x.hi 1), .int .i64 (x.lo 2), .int .i64 (x.hi 2), .int .i64 x.s] T)) w.heap.size x :=
  ⟨fun k hk => by
    have h : k = 0 ∨ k = 1 ∨ k = 2 := by omega
    rcases h with rfl | rfl | rfl <;> exact ⟨by simp [go_sem], by simp [go_sem]⟩, by simp [go_sem]⟩
theorem BnAt.later {w w' : World} {b : Nat} {x : Bn} (h : BnAt w b x) (hb : Below w.heap.size w w') : BnAt w' b x :=
  ⟨fun k hk => ⟨Kb hb (h.1 k hk).1, Kb hb (h.1 k hk).2⟩, Kb hb h.2⟩

set_option maxRecDepth 100000 in
set_option maxHeartbeats 4000000 in
/-- Bin.span -/
theorem bspan_any (x : Bn) (dA : Option Addr) (d dc : Nat) (D : Nat → Int) (W : World) (hdc : d ≤ dc) (hD : IntRow W W.heap.size dA d D) (h7 : d ≤ 7) (hok : x.ok d) (hk : ∀ j, j < d → 0 ≤ D j ∧ D j ≤ 2) :
    Calls Tryz.prog 120 #[bnV x, .slice dA d dc] W fun e W' => e = .returned (.agg #[.int .i64 (x.tot x.lo D (d - x.s.toNat)), .int .i64 (x.tot x.hi D (d - x.s.toNat))]) ∧ Below W.heap.size W W' := by
  have HD := Lib.hid hD
  have HK := Lib.hid hk
  have HOK := Lib.hid hok
  clear hD hk hok
  go_enter Tryz.func120, Tryz.ntmps120
  go_wp2_with fail
  refine (ends_any _).mono ?_
  rintro e w1 ⟨rfl, hb1⟩
  have hz1 := hb1.size
  have HX1 := Lib.hid ((bnAt_new W x 119).later (w' := w1) (by
    have h := hb1
    exact (((Below.refl _ _).alloc (Nat.le_refl _) _).alloc (by simp) _).trans (h.mono (by simp))))
  have HB1 := Lib.hid (show Below W.heap.size W w1 from (by repeat (first | (with_reducible first | exact Below.refl _ _ | refine Below.drew ?_ | refine below_drewN ?_ _) | ((with_reducible first | refine Lc ?_ ?_ _ | refine Ls ?_ ?_ _ | refine Lv (by assumption) ?_ ?_); · first | exact Nat.le_refl _ | omega | (simp; done) | (simp; omega) | (simp at *; omega)))))
  have hc1 : w1.cell? ⟨W.heap.size + 1, 0, none⟩ = some (.slice dA d dc) := Kb hb1 (by (repeat' refine And.intro ?_ ?_) <;> (repeat (first | with_reducible assumption | (simp; done) | (with_reducible first | refine Kd ?_ | refine Kn ?_ | refine Kb (by assumption) ?_) | ((with_reducible first | refine Kw ?_ ?_ | refine Fw ?_) <;> first | with_reducible rfl | (simp; done)) | (with_reducible first | refine Ka _ ?_ | refine Ks _ (by first | exact Nat.le_refl _ | omega | (simp; done) | (simp; omega)) ?_ | refine Fd ?_ | refine Fn ?_ | refine Fb (by assumption) (by first | exact Nat.le_refl _ | omega | (simp; done) | (simp; omega)) ?_ | refine Fa _ (by first | exact Nat.le_refl _ | omega | (simp; done) | (simp; omega)) ?_ | refine Fs _ ?_))))
  have r0 : w1.cell? ⟨W.heap.size + 1 + 1, 0, none⟩ = some (.int .i64 0) := Kb hb1 (by (repeat' refine And.intro ?_ ?_) <;> (repeat (first | with_reducible assumption | (simp; done) | (with_reducible first | refine Kd ?_ | refine Kn ?_ | refine Kb (by assumption) ?_) | ((with_reducible first | refine Kw ?_ ?_ | refine Fw ?_) <;> first | with_reducible rfl | (simp; done)) | (with_reducible first | refine Ka _ ?_ | refine Ks _ (by first | exact Nat.le_refl _ | omega | (simp; done) | (simp; omega)) ?_ | refine Fd ?_ | refine Fn ?_ | refine Fb (by assumption) (by first | exact Nat.le_refl _ | omega | (simp; done) | (simp; omega)) ?_ | refine Fa _ (by first | exact Nat.le_refl _ | omega | (simp; done) | (simp; omega)) ?_ | refine Fs _ ?_))))
  have r1 : w1.cell? ⟨W.heap.size + 1 + 1, 1, none⟩ = some (.int .i64 0) := Kb hb1 (by (repeat' refine And.intro ?_ ?_) <;> (repeat (first | with_reducible assumption | (simp; done) | (with_reducible first | refine Kd ?_ | refine Kn ?_ | refine Kb (by assumption) ?_) | ((with_reducible first | refine Kw ?_ ?_ | refine Fw ?_) <;> first | with_reducible rfl | (simp; done)) | (with_reducible first | refine Ka _ ?_ | refine Ks _ (by first | exact Nat.le_refl _ | omega | (simp; done) | (simp; omega)) ?_ | refine Fd ?_ | refine Fn ?_ | refine Fb (by assumption) (by first | exact Nat.le_refl _ | omega | (simp; done) | (simp; omega)) ?_ | refine Fa _ (by first | exact Nat.le_refl _ | omega | (simp; done) | (simp; omega)) ?_ | refine Fs _ ?_))))
  have f0 : w1.frozen? ⟨W.heap.size + 1 + 1, 0, none⟩ = false := fro_below_cell hb1 (v := .int .i64 0) (by (repeat' refine And.intro ?_ ?_) <;> (repeat (first | with_reducible assumption | (simp; done) | (with_reducible first | refine Kd ?_ | refine Kn ?_ | refine Kb (by assumption) ?_) | ((with_reducible first | refine Kw ?_ ?_ | refine Fw ?_) <;> first | with_reducible rfl | (simp; done)) | (with_reducible first | refine Ka _ ?_ | refine Ks _ (by first | exact Nat.le_refl _ | omega | (simp; done) | (simp; omega)) ?_ | refine Fd ?_ | refine Fn ?_ | refine Fb (by assumption) (by first | exact Nat.le_refl _ | omega | (simp; done) | (simp; omega)) ?_ | refine Fa _ (by first | exact Nat.le_refl _ | omega | (simp; done) | (simp; omega)) ?_ | refine Fs _ ?_)))) (by (repeat' refine And.intro ?_ ?_) <;> (repeat (first | with_reducible assumption | (simp; done) | (with_reducible first | refine Kd ?_ | refine Kn ?_ | refine Kb (by assumption) ?_) | ((with_reducible first | refine Kw ?_ ?_ | refine Fw ?_) <;> first | with_reducible rfl | (simp; done)) | (with_reducible first | refine Ka _ ?_ | refine Ks _ (by first | exact Nat.le_refl _ | omega | (simp; done) | (simp; omega)) ?_ | refine Fd ?_ | refine Fn ?_ | refine Fb (by assumption) (by first | exact Nat.le_refl _ | omega | (simp; done) | (simp; omega)) ?_ | refine Fa _ (by first | exact Nat.le_refl _ | omega | (simp; done) | (simp; omega)) ?_ | refine Fs _ ?_))))
  have f1 : w1.frozen? ⟨W.heap.size + 1 + 1, 1, none⟩ = false := fro_below_cell hb1 (v := .int .i64 0) (by (repeat' refine And.intro ?_ ?_) <;> (repeat (first | with_reducible assumption | (simp; done) | (with_reducible first | refine Kd ?_ | refine Kn ?_ | refine Kb (by assumption) ?_) | ((with_reducible first | refine Kw ?_ ?_ | refine Fw ?_) <;> first | with_reducible rfl | (simp; done)) | (with_reducible first | refine Ka _ ?_ | refine Ks _ (by first | exact Nat.le_refl _ | omega | (simp; done) | (simp; omega)) ?_ | refine Fd ?_ | refine Fn ?_ | refine Fb (by assumption) (by first | exact Nat.le_refl _ | omega | (simp; done) | (simp; omega)) ?_ | refine Fa _ (by first | exact Nat.le_refl _ | omega | (simp; done) | (simp; omega)) ?_ | refine Fs _ ?_)))) (by (repeat' refine And.intro ?_ ?_) <;> (repeat (first | with_reducible assumption | (simp; done) | (with_reducible first | refine Kd ?_ | refine Kn ?_ | refine Kb (by assumption) ?_) | ((with_reducible first | refine Kw ?_ ?_ | refine Fw ?_) <;> first | with_reducible rfl | (simp; done)) | (with_reducible first | refine Ka _ ?_ | refine Ks _ (by first | exact Nat.le_refl _ | omega | (simp; done) | (simp; omega)) ?_ | refine Fd ?_ | refine Fn ?_ | refine Fb (by assumption) (by first | exact Nat.le_refl _ | omega | (simp; done) | (simp; omega)) ?_ | refine Fa _ (by first | exact Nat.le_refl _ | omega | (simp; done) | (simp; omega)) ?_ | refine Fs _ ?_))))
  have HD1 := Lib.hid ((HD.out.below HB1.out).mono HB1.out.size)
  simp only [World.size_alloc] at hz1
  have HC1 := Lib.hid hc1
  clear hb1
  go_upto_region 3 with fail
  go_region_held3 (fun w' => w'.cell? ⟨w1.heap.size, 0, none⟩ = some (.func (.func 133) #[] #[]) ∧ w'.cell? ⟨w1.heap.size + 1, 0, none⟩ = some (.func (.func 134) #[] #[])) ((go_split_ands; (repeat' refine And.intro ?_ ?_) <;> (repeat (first | with_reducible assumption | (simp; done) | (with_reducible first | refine Kd ?_ | refine Kn ?_ | refine Kb (by assumption) ?_) | ((with_reducible first | refine Kw ?_ ?_ | refine Fw ?_) <;> first | with_reducible rfl | (simp; done)) | (with_reducible first | refine Ka _ ?_ | refine Ks _ (by first | exact Nat.le_refl _ | omega | (simp; done) | (simp; omega) | (simp at *; omega)) ?_ | refine Fd ?_ | refine Fn ?_ | refine Fb (by assumption) (by first | exact Nat.le_refl _ | omega | (simp; done) | (simp; omega) | (simp at *; omega)) ?_ | refine Fa _ (by first | exact Nat.le_refl _ | omega | (simp; done) | (simp; omega) | (simp at *; omega)) ?_ | refine Fs _ ?_))))) (first | (go_at_call 149; refine (bspan1_any _ _ (by first | exact end_lo | exact end_hi) x dA d dc D (W.heap.size + 1) W.heap.size _ (HX1.out.later (by repeat (first | (with_reducible first | exact Below.refl _ _ | refine Below.drew ?_ | refine below_drewN ?_ _) | ((with_reducible first | refine Lc ?_ ?_ _ | refine Ls ?_ ?_ _ | refine Lv (by assumption) ?_ ?_); · first | exact Nat.le_refl _ | omega | (simp; done) | (simp; omega) | (simp at *; omega))))) (by repeat (first | exact HC1.out | first | with_reducible assumption | (simp; done) | (with_reducible first | refine Kd ?_ | refine Kn ?_ | refine Kb (by assumption) ?_) | ((with_reducible first | refine Kw ?_ ?_ | refine Fw ?_) <;> first | with_reducible rfl | (simp; done)) | (with_reducible first | refine Ka _ ?_ | refine Ks _ (by first | exact Nat.le_refl _ | omega | (simp; done) | (simp; omega) | (simp at *; omega)) ?_ | refine Fd ?_ | refine Fn ?_ | refine Fb (by assumption) (by first | exact Nat.le_refl _ | omega | (simp; done) | (simp; omega) | (simp at *; omega)) ?_ | refine Fa _ (by first | exact Nat.le_refl _ | omega | (simp; done) | (simp; omega) | (simp at *; omega)) ?_ | refine Fs _ ?_))) hdc ((HD1.out.below (by repeat (first | (with_reducible first | exact Below.refl _ _ | refine Below.drew ?_ | refine below_drewN ?_ _) | ((with_reducible first | refine Lc ?_ ?_ _ | refine Ls ?_ ?_ _ | refine Lv (by assumption) ?_ ?_); · first | exact Nat.le_refl _ | omega | (simp; done) | (simp; omega) | (simp at *; omega))))).mono (by first | exact Nat.le_refl _ | omega | (simp; done) | (simp; omega) | (simp at *; omega))) h7 HOK.out HK.out).mono ?_; rintro e w2 ⟨rfl, hb2⟩; obtain ⟨hc2, hf2⟩ := bcell hb2; have hz2 := hb2.size; have r0 : w2.cell? ⟨W.heap.size + 1 + 1, 0, none⟩ = some (.int .i64 0) := (by repeat (first | with_reducible assumption | (simp; done) | (with_reducible first | refine Kd ?_ | refine Kn ?_ | refine Kb (by assumption) ?_) | ((with_reducible first | refine Kw ?_ ?_ | refine Fw ?_) <;> first | with_reducible rfl | (simp; done)) | (with_reducible first | refine Ka _ ?_ | refine Ks _ (by first | exact Nat.le_refl _ | omega | (simp; done) | (simp; omega) | (simp at *; omega)) ?_ | refine Fd ?_ | refine Fn ?_ | refine Fb (by assumption) (by first | exact Nat.le_refl _ | omega | (simp; done) | (simp; omega) | (simp at *; omega)) ?_ | refine Fa _ (by first | exact Nat.le_refl _ | omega | (simp; done) | (simp; omega) | (simp at *; omega)) ?_ | refine Fs _ ?_))); have r1 : w2.cell? ⟨W.heap.size + 1 + 1, 1, none⟩ = some (.int .i64 0) := (by repeat (first | with_reducible assumption | (simp; done) | (with_reducible first | refine Kd ?_ | refine Kn ?_ | refine Kb (by assumption) ?_) | ((with_reducible first | refine Kw ?_ ?_ | refine Fw ?_) <;> first | with_reducible rfl | (simp; done)) | (with_reducible first | refine Ka _ ?_ | refine Ks _ (by first | exact Nat.le_refl _ | omega | (simp; done) | (simp; omega) | (simp at *; omega)) ?_ | refine Fd ?_ | refine Fn ?_ | refine Fb (by assumption) (by first | exact Nat.le_refl _ | omega | (simp; done) | (simp; omega) | (simp at *; omega)) ?_ | refine Fa _ (by first | exact Nat.le_refl _ | omega | (simp; done) | (simp; omega) | (simp at *; omega)) ?_ | refine Fs _ ?_))); have f0 : w2.frozen? ⟨W.heap.size + 1 + 1, 0, none⟩ = false := (by repeat (first | with_reducible assumption | (simp; done) | (with_reducible first | refine Kd ?_ | refine Kn ?_ | refine Kb (by assumption) ?_) | ((with_reducible first | refine Kw ?_ ?_ | refine Fw ?_) <;> first | with_reducible rfl | (simp; done)) | (with_reducible first | refine Ka _ ?_ | refine Ks _ (by first | exact Nat.le_refl _ | omega | (simp; done) | (simp; omega) | (simp at *; omega)) ?_ | refine Fd ?_ | refine Fn ?_ | refine Fb (by assumption) (by first | exact Nat.le_refl _ | omega | (simp; done) | (simp; omega) | (simp at *; omega)) ?_ | refine Fa _ (by first | exact Nat.le_refl _ | omega | (simp; done) | (simp; omega) | (simp at *; omega)) ?_ | refine Fs _ ?_))); have f1 : w2.frozen? ⟨W.heap.size + 1 + 1, 1, none⟩ = false := (by repeat (first | with_reducible assumption | (simp; done) | (with_reducible first | refine Kd ?_ | refine Kn ?_ | refine Kb (by assumption) ?_) | ((with_reducible first | refine Kw ?_ ?_ | refine Fw ?_) <;> first | with_reducible rfl | (simp; done)) | (with_reducible first | refine Ka _ ?_ | refine Ks _ (by first | exact Nat.le_refl _ | omega | (simp; done) | (simp; omega) | (simp at *; omega)) ?_ | refine Fd ?_ | refine Fn ?_ | refine Fb (by assumption) (by first | exact Nat.le_refl _ | omega | (simp; done) | (simp; omega) | (simp at *; omega)) ?_ | refine Fa _ (by first | exact Nat.le_refl _ | omega | (simp; done) | (simp; omega) | (simp at *; omega)) ?_ | refine Fs _ ?_)))))
  clear hc2 hf2
  go_wp2_with fail
  exact bodyPost_ret (v := .agg #[.int .i64 (x.tot x.lo D (d - x.s.toNat)), .int .i64 (x.tot x.hi D (d - x.s.toNat))]) (by simp [results, Tryz.results120, go_sem, r0, r1]) rfl ⟨rfl, (by have hy := HB1.out; have hzy := hy.size; repeat (first | (with_reducible first | exact Below.refl _ _ | refine Below.drew ?_ | refine below_drewN ?_ _) | ((with_reducible first | refine Lc ?_ ?_ _ | refine Ls ?_ ?_ _ | refine Lv (by assumption) ?_ ?_); · first | exact Nat.le_refl _ | omega | (simp; done) | (simp; omega) | (simp at *; omega))))⟩
end Go.Proofs.YtnnikeolgknfoaaGreat
