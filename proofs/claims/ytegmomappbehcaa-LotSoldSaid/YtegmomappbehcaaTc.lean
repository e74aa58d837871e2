/- The reference: size, Lot. -/
import Derived.Test.YtegmomappbehcaaTb
set_option linter.unusedSimpArgs false
set_option linter.unusedVariables false
namespace Go.Proofs.Ytegmomappbehcaa
open Go.RowKit Go.Shelf

set_option maxRecDepth 100000 in
set_option maxHeartbeats 1000000 in
theorem rsize_any (A : Option Addr) (n c : Nat) (X : Nat → Int) (W : World) (hl : IntRow W W.heap.size A n X) (hn : n ≤ 1000) (hX : ∀ k, k < n → -1000000 ≤ X k ∧ X k ≤ 1000000) :
    Calls Try.prog 86 #[.slice A n c] W fun e W' => e = .returned (.int .i64 (sumN X n)) ∧ W = W' := by
  have HL := Lib.hid hl
  have HX := Lib.hid hX
  clear hl hX
  go_enter Try.func86, Try.ntmps86
  go_wp2_with fail
  go_loopw [3, 4] (fun t i wr => ∃ k : Nat, k ≤ n ∧ i = .int .i64 k ∧ t = .int .i64 (sumN X k) ∧ wr = W) (fun _ i _ => n - (intOf i).toNat)
  case atStart => exact ⟨0, Nat.zero_le _, rfl, rfl, rfl⟩
  case round =>
    obtain ⟨k, hk, rfl, rfl, rfl⟩ := hrel
    by_cases hlt : k < n
    · obtain ⟨b, o, rfl, hbl, c0⟩ := HL.out k hlt
      have hk0 : (0 : Int) ≤ (k : Int) := by omega
      have hkn : (k : Int) < (n : Int) := by omega
      have bx := HX.out k hlt
      have bd := sumN_bd X k (fun j hj => HX.out j (by omega))
      have ew : IntKind.i64.wrap (sumN X k + X k) = sumN X (k + 1) := IntWalk.i64_in _ (by omega)
      go_wp2_with fail
      go_roundw
      case rel => exact ⟨k + 1, by omega, by go_num, rfl, trivial⟩
      case measure => simp [intOf]; omega
    · have hk' : k = n := by omega
      have hge : ¬ (k : Int) < (n : Int) := by omega
      have HE := Lib.hid hk'
      clear hk'
      go_wp2_with fail
      go_ret
      exact ⟨by rw [HE.out]; rfl, rfl⟩

set_option maxRecDepth 100000 in
set_option maxHeartbeats 2000000 in
theorem rLot_any (st : St) (B : Nat) (pA gA : Option Addr) (pc gc : Nat) (lA : Option Addr) (ln lc : Nat) (X : Nat → Int) (W : World) (hs : StRow W B st pA pc gA gc) (hl : IntRow W W.heap.size lA ln X) (hn : ln ≤ 1000) :
    Calls Try.prog 89 #[stV pA st.n pc gA st.m gc st.lots, .slice lA ln lc] W fun e W' => e = .returned (.int .i64 (st.askErr ln X)) ∧ Below W.heap.size W W' := by
  have HS := Lib.hid hs
  have HL := Lib.hid hl
  have hB := hs.lt
  clear hs hl
  go_enter Try.func89, Try.ntmps89
  go_wp2_with fail
  refine (rcheck_any st B pA gA pc gc _ (HS.out.later (by repeat (first | (with_reducible exact Below.refl _ _) | (with_reducible refine Below.drew ?_) | (with_reducible refine below_drewN ?_ _) | ((with_reducible refine below_alloc ?_ ?_ _); · (first | exact Nat.le_refl _ | omega | (simp; done) | (simp; omega) | (simp at *; omega))) | ((with_reducible refine below_set ?_ ?_ _); · (first | exact Nat.le_refl _ | omega | (simp; done) | (simp; omega) | (simp at *; omega))) | ((with_reducible refine below_via (by with_reducible assumption) ?_ ?_); · (first | exact Nat.le_refl _ | omega | (simp; done) | (simp; omega) | (simp at *; omega))))))).mono ?_
  rintro e w1 ⟨rfl, hb1⟩
  have hs1 := hb1.size
  simp only [World.size_alloc] at hs1
  have HA := Lib.hid (show w1.cell? ⟨W.heap.size, 0, none⟩ = some (.slice pA st.n pc) from cell_below_of hb1 (by (repeat' refine And.intro ?_ ?_) <;> (repeat (first | (with_reducible assumption) | (simp; done) | (with_reducible refine cell_drew_of ?_) | (with_reducible refine cell_drewN_of ?_) | (with_reducible refine cell_below_of (by with_reducible assumption) ?_) | ((with_reducible refine cell_new_of ?_ ?_) <;> (first | (with_reducible rfl) | (simp; done))) | ((with_reducible refine fro_new_of ?_) <;> (first | (with_reducible rfl) | (simp; done))) | (with_reducible refine cell_alloc_of _ ?_) | (with_reducible refine cell_set_of _ (by (first | exact Nat.le_refl _ | omega | (simp; done) | (simp; omega))) ?_) | (with_reducible refine fro_drew_of ?_) | (with_reducible refine fro_drewN_of ?_) | (with_reducible refine fro_below_of (by with_reducible assumption) (by (first | exact Nat.le_refl _ | omega | (simp; done) | (simp; omega))) ?_) | (with_reducible refine fro_alloc_of _ (by (first | exact Nat.le_refl _ | omega | (simp; done) | (simp; omega))) ?_) | (with_reducible refine fro_set_of _ ?_)))))
  have HB1 := Lib.hid (show Below W.heap.size W w1 from (by repeat (first | (with_reducible exact Below.refl _ _) | (with_reducible refine Below.drew ?_) | (with_reducible refine below_drewN ?_ _) | ((with_reducible refine below_alloc ?_ ?_ _); · (first | exact Nat.le_refl _ | omega | (simp; done) | (simp; omega) | (simp at *; omega))) | ((with_reducible refine below_set ?_ ?_ _); · (first | exact Nat.le_refl _ | omega | (simp; done) | (simp; omega) | (simp at *; omega))) | ((with_reducible refine below_via (by with_reducible assumption) ?_ ?_); · (first | exact Nat.le_refl _ | omega | (simp; done) | (simp; omega) | (simp at *; omega))))))
  clear hb1
  by_cases h0 : st.check = 0
  · have hnb : (st.check != 0) = false := by simpa using h0
    have HO := Lib.hid (St.check_ok.1 h0)
    have HE : Hid (st.askErr ln X = st.lotErr ln X) := Lib.hid (by unfold St.askErr; rw [if_neg (by simpa using h0)])
    have n4 := HO.out.n4
    have a0 := HA.out
    clear h0
    by_cases hne : ln = st.n
    · have hb : ((ln : Int) != (st.n : Int)) = false := by simp [hne]
      subst hne
      go_wp2_with fail
      go_loopw [6] (fun i wr => ∃ k : Nat, k ≤ st.n ∧ i = .int .i64 k ∧ Hid (∀ j, j < k → inB (X j) 0 (st.P j).s = true) ∧ Hid (Below w1.heap.size w1 wr)) (fun i _ => st.n - (intOf i).toNat)
      case atStart => exact ⟨0, Nat.zero_le _, rfl, Lib.hid (fun j hj => absurd hj (by omega)), Lib.hid (Below.refl _ _)⟩
      case round =>
        obtain ⟨k, hk, rfl, hall, hbw⟩ := hrel
        have hyw : Hid (Below W.heap.size W wr) := Lib.hid (HB1.out.trans (hbw.out.mono (by omega)))
        have hsw := hyw.out.size
        clear a0
        have a0 := cell_same (hbw.out.block W.heap.size (by omega)) HA.out
        by_cases hlt : k < st.n
        · obtain ⟨b, o, rfl, hbl, c0, _⟩ := (HS.out.p.below (hyw.out.mono hB)) k hlt
          obtain ⟨b2, o2, rfl, hbl2, d0⟩ := (HL.out.below hyw.out) k hlt
          have hk0 : (0 : Int) ≤ (k : Int) := by omega
          have hkn : (k : Int) < (st.n : Int) := by omega
          cases j1 : inB (X k) 0 (st.P k).s with
          | false =>
            have HR : Hid (st.askErr st.n X = 4) := Lib.hid (by rw [HE.out]; unfold St.lotErr; rw [if_neg (by simp), if_pos (allN_false (k := k) hlt j1)])
            go_wp2_with fail
            refine region_qbw (by kernel_rfl) (by kernel_rfl) ?_
            have x0 := cell_regrown a0
            have x1 := cell_regrown c0
            have x2 := cell_regrown d0
            clear c0 d0 a0
            repeat (first | go_big_quiet_step ((go_at_call 82; exact Calls.regrown_of (off_bel _ _ _ _))) | quiet_step ((go_at_call 82; exact Calls.regrown_of (off_bel _ _ _ _))))
            refine wpQuiet_nil ?_; intro wq hbq
            have hyq := Lib.hid (hyw.out.trans (hbq.mono hsw))
            clear x0 x1 x2 hbq
            rw [j1]
            go_wp2_with fail
            go_ret
            exact ⟨by rw [HR.out]; rfl, hyq.out⟩
          | true =>
            have HU := Lib.hid j1
            go_wp2_with fail
            refine region_qbw (by kernel_rfl) (by kernel_rfl) ?_
            have x0 := cell_regrown a0
            have x1 := cell_regrown c0
            have x2 := cell_regrown d0
            clear c0 d0 a0
            repeat (first | go_big_quiet_step ((go_at_call 82; exact Calls.regrown_of (off_bel _ _ _ _))) | quiet_step ((go_at_call 82; exact Calls.regrown_of (off_bel _ _ _ _))))
            refine wpQuiet_nil ?_; intro wq hbq
            have hbw2 := Lib.hid (hbw.out.trans (hbq.mono hbw.out.size))
            clear x0 x1 x2 hbq
            rw [j1]
            go_wp2_with fail
            go_roundw
            case rel => exact ⟨k + 1, by omega, by go_num, Lib.hid (fun j hj => by rcases Nat.lt_or_ge j k with h | h; exact hall.out j h; rw [show j = k from by omega]; exact HU.out), hbw2⟩
            case measure => simp [intOf]; omega
        · have hk' : k = st.n := by omega
          have hge : ¬ (k : Int) < (st.n : Int) := by omega
          have HR : Hid (st.askErr st.n X = 0) := Lib.hid (by rw [HE.out]; unfold St.lotErr; rw [if_neg (by simp), if_neg (by rw [allN_iff.2 (fun j hj => hall.out j (by omega))]; decide)])
          go_wp2_with fail
          go_ret
          exact ⟨by rw [HR.out]; rfl, hyw.out⟩
    · have hb : ((ln : Int) != (st.n : Int)) = true := by rw [bne_iff_ne]; omega
      have HR : Hid (st.askErr ln X = 3) := Lib.hid (by rw [HE.out]; unfold St.lotErr; rw [if_pos hne])
      clear hne
      go_wp2_with fail
      go_ret
      exact ⟨by rw [HR.out]; rfl, HB1.out⟩
  · have hnb : (st.check != 0) = true := by simpa using h0
    have HE : Hid (st.askErr ln X = st.check) := Lib.hid (by unfold St.askErr; rw [if_pos h0])
    clear h0
    go_wp2_with fail
    go_ret
    exact ⟨by rw [HE.out]; rfl, HB1.out⟩
end Go.Proofs.Ytegmomappbehcaa
