/- The reference: Possible. -/
import Derived.Test.YtegmomappbehcaaTe
set_option linter.unusedSimpArgs false
set_option linter.unusedVariables false
namespace Go.Proofs.Ytegmomappbehcaa
open Go.RowKit Go.Shelf

/-- so many sacks of a picking foul, so many of these in a lot -/
def posB (p : Pk) (x f g : Int) : Bool := inB f p.f p.hi && p.can x f g
def St.possR (st : St) (n : Nat) (X : Nat → Int) (fn gn : Nat) (F G : Nat → Int) : Bool × Int :=
  if st.askErr n X ≠ 0 then (false, st.askErr n X) else if fn ≠ st.n ∨ gn ≠ st.n then (false, 3) else (allN (fun k => posB (st.P k) (X k) (F k) (G k)) st.n, 0)
/-- as far as k numbers were asked -/
def posK (p : Pk) (x f g : Int) (k : Nat) : Bool := decide (p.f ≤ f) && decide (f < p.f + k) && p.can x f g
theorem posK_zero (p : Pk) (x f g : Int) : posK p x f g 0 = false := by
  unfold posK
  by_cases h : p.f ≤ f
  · rw [decide_eq_false (show ¬ f < p.f + ((0 : Nat) : Int) by omega)]; simp
  · rw [decide_eq_false h]; simp
theorem posK_succ (p : Pk) (x f g : Int) (k : Nat) : posK p x f g (k + 1) = (posK p x f g k || (decide (p.f + (k : Int) = f) && p.can x f g)) := by
  unfold posK
  rw [← Bool.and_or_distrib_right]
  congr 1
  rw [Bool.eq_iff_iff]
  simp only [Bool.and_eq_true, Bool.or_eq_true, decide_eq_true_eq]
  omega
theorem posK_all (p : Pk) (x f g : Int) : posK p x f g p.cnt = posB p x f g := by
  unfold posK posB inB
  congr 1
  rw [Bool.eq_iff_iff]
  simp only [Bool.and_eq_true, decide_eq_true_eq]
  unfold Pk.cnt
  omega

set_option maxRecDepth 100000 in
set_option maxHeartbeats 4000000 in
theorem rPossible_any (st : St) (B : Nat) (pA gA : Option Addr) (pc gc : Nat) (lA : Option Addr) (ln lc : Nat) (X : Nat → Int) (fA : Option Addr) (fn fc : Nat) (F : Nat → Int) (iA : Option Addr) (gn ic : Nat) (G : Nat → Int) (W : World) (hs : StRow W B st pA pc gA gc) (hl : IntRow W W.heap.size lA ln X) (hn : ln ≤ 1000)
    (hf : IntRow W W.heap.size fA fn F) (hg : IntRow W W.heap.size iA gn G) :
    Calls Try.prog 69 #[stV pA st.n pc gA st.m gc st.lots, .slice lA ln lc, .slice fA fn fc, .slice iA gn ic] W fun e W' => e = .returned (boV (st.possR ln X fn gn F G)) ∧ Below W.heap.size W W' := by
  have HS := Lib.hid hs; have HL := Lib.hid hl; have hB := hs.lt; clear hs hl
  have HF := Lib.hid hf
  have HG := Lib.hid hg
  clear hf hg
  go_enter Try.func69, Try.ntmps69
  go_wp2_with fail
  refine (rLot_any st B pA gA pc gc lA ln lc X _ (HS.out.later (by repeat (first | (with_reducible exact Below.refl _ _) | (with_reducible refine Below.drew ?_) | (with_reducible refine below_drewN ?_ _) | ((with_reducible refine below_alloc ?_ ?_ _); · (first | exact Nat.le_refl _ | omega | (simp; done) | (simp; omega) | (simp at *; omega))) | ((with_reducible refine below_set ?_ ?_ _); · (first | exact Nat.le_refl _ | omega | (simp; done) | (simp; omega) | (simp at *; omega))) | ((with_reducible refine below_via (by with_reducible assumption) ?_ ?_); · (first | exact Nat.le_refl _ | omega | (simp; done) | (simp; omega) | (simp at *; omega)))))) (HL.out.later (by repeat (first | (with_reducible exact Below.refl _ _) | (with_reducible refine Below.drew ?_) | (with_reducible refine below_drewN ?_ _) | ((with_reducible refine below_alloc ?_ ?_ _); · (first | exact Nat.le_refl _ | omega | (simp; done) | (simp; omega) | (simp at *; omega))) | ((with_reducible refine below_set ?_ ?_ _); · (first | exact Nat.le_refl _ | omega | (simp; done) | (simp; omega) | (simp at *; omega))) | ((with_reducible refine below_via (by with_reducible assumption) ?_ ?_); · (first | exact Nat.le_refl _ | omega | (simp; done) | (simp; omega) | (simp at *; omega)))))) hn).mono ?_; rintro e w1 ⟨rfl, hb1⟩; have HB1 := Lib.hid (show Below W.heap.size W w1 from (by repeat (first | (with_reducible exact Below.refl _ _) | (with_reducible refine Below.drew ?_) | (with_reducible refine below_drewN ?_ _) | ((with_reducible refine below_alloc ?_ ?_ _); · (first | exact Nat.le_refl _ | omega | (simp; done) | (simp; omega) | (simp at *; omega))) | ((with_reducible refine below_set ?_ ?_ _); · (first | exact Nat.le_refl _ | omega | (simp; done) | (simp; omega) | (simp at *; omega))) | ((with_reducible refine below_via (by with_reducible assumption) ?_ ?_); · (first | exact Nat.le_refl _ | omega | (simp; done) | (simp; omega) | (simp at *; omega)))))); have hs1 := hb1.size; simp only [World.size_alloc] at hs1; have HA := Lib.hid (show w1.cell? ⟨W.heap.size, 0, none⟩ = some (.slice pA st.n pc) ∧ w1.cell? ⟨W.heap.size, 1, none⟩ = some (.slice gA st.m gc) ∧ w1.cell? ⟨W.heap.size, 2, none⟩ = some (.int .i64 st.lots) from ⟨cell_below_of hb1 (by (repeat' refine And.intro ?_ ?_) <;> (repeat (first | (with_reducible assumption) | (simp; done) | (with_reducible refine cell_drew_of ?_) | (with_reducible refine cell_drewN_of ?_) | (with_reducible refine cell_below_of (by with_reducible assumption) ?_) | ((with_reducible refine cell_new_of ?_ ?_) <;> (first | (with_reducible rfl) | (simp; done))) | ((with_reducible refine fro_new_of ?_) <;> (first | (with_reducible rfl) | (simp; done))) | (with_reducible refine cell_alloc_of _ ?_) | (with_reducible refine cell_set_of _ (by (first | exact Nat.le_refl _ | omega | (simp; done) | (simp; omega))) ?_) | (with_reducible refine fro_drew_of ?_) | (with_reducible refine fro_drewN_of ?_) | (with_reducible refine fro_below_of (by with_reducible assumption) (by (first | exact Nat.le_refl _ | omega | (simp; done) | (simp; omega))) ?_) | (with_reducible refine fro_alloc_of _ (by (first | exact Nat.le_refl _ | omega | (simp; done) | (simp; omega))) ?_) | (with_reducible refine fro_set_of _ ?_)))), cell_below_of hb1 (by (repeat' refine And.intro ?_ ?_) <;> (repeat (first | (with_reducible assumption) | (simp; done) | (with_reducible refine cell_drew_of ?_) | (with_reducible refine cell_drewN_of ?_) | (with_reducible refine cell_below_of (by with_reducible assumption) ?_) | ((with_reducible refine cell_new_of ?_ ?_) <;> (first | (with_reducible rfl) | (simp; done))) | ((with_reducible refine fro_new_of ?_) <;> (first | (with_reducible rfl) | (simp; done))) | (with_reducible refine cell_alloc_of _ ?_) | (with_reducible refine cell_set_of _ (by (first | exact Nat.le_refl _ | omega | (simp; done) | (simp; omega))) ?_) | (with_reducible refine fro_drew_of ?_) | (with_reducible refine fro_drewN_of ?_) | (with_reducible refine fro_below_of (by with_reducible assumption) (by (first | exact Nat.le_refl _ | omega | (simp; done) | (simp; omega))) ?_) | (with_reducible refine fro_alloc_of _ (by (first | exact Nat.le_refl _ | omega | (simp; done) | (simp; omega))) ?_) | (with_reducible refine fro_set_of _ ?_)))), cell_below_of hb1 (by (repeat' refine And.intro ?_ ?_) <;> (repeat (first | (with_reducible assumption) | (simp; done) | (with_reducible refine cell_drew_of ?_) | (with_reducible refine cell_drewN_of ?_) | (with_reducible refine cell_below_of (by with_reducible assumption) ?_) | ((with_reducible refine cell_new_of ?_ ?_) <;> (first | (with_reducible rfl) | (simp; done))) | ((with_reducible refine fro_new_of ?_) <;> (first | (with_reducible rfl) | (simp; done))) | (with_reducible refine cell_alloc_of _ ?_) | (with_reducible refine cell_set_of _ (by (first | exact Nat.le_refl _ | omega | (simp; done) | (simp; omega))) ?_) | (with_reducible refine fro_drew_of ?_) | (with_reducible refine fro_drewN_of ?_) | (with_reducible refine fro_below_of (by with_reducible assumption) (by (first | exact Nat.le_refl _ | omega | (simp; done) | (simp; omega))) ?_) | (with_reducible refine fro_alloc_of _ (by (first | exact Nat.le_refl _ | omega | (simp; done) | (simp; omega))) ?_) | (with_reducible refine fro_set_of _ ?_))))⟩)
  clear hb1
  by_cases h0 : st.askErr ln X = 0
  · have hnb : (st.askErr ln X != 0) = false := by simpa using h0
    have HR0 : Hid (st.possR ln X fn gn F G = if fn ≠ st.n ∨ gn ≠ st.n then (false, 3) else (allN (fun k => posB (st.P k) (X k) (F k) (G k)) st.n, 0)) := Lib.hid (by unfold St.possR; rw [if_neg (by simp [h0])])
    have HST := Lib.hid (St.askErr_ok h0).1; have HX := Lib.hid (ask_rng h0); obtain rfl : ln = st.n := (St.askErr_ok h0).2.2
    have hs1' := HB1.out.size
    have n4 := HST.out.n4
    clear h0
    by_cases hfn : fn = st.n
    · by_cases hgn : gn = st.n
      · have HR : Hid (st.possR st.n X fn gn F G = (allN (fun k => posB (st.P k) (X k) (F k) (G k)) st.n, 0)) := Lib.hid (by rw [HR0.out, if_neg (by simp [hfn, hgn])])
        subst hfn
        subst hgn
        have hq : ((st.n : Int) != (st.n : Int)) = false := by simp
        go_wp2_with fail
        go_loopw [11] (fun i wr => ∃ k : Nat, k ≤ st.n ∧ i = .int .i64 k ∧ Hid (∀ j, j < k → posB (st.P j) (X j) (F j) (G j) = true) ∧ Hid (Below w1.heap.size w1 wr)) (fun i _ => st.n - (intOf i).toNat)
        case atStart => exact ⟨0, by omega, rfl, Lib.hid (fun j hj => absurd hj (by omega)), Lib.hid (Below.refl _ _)⟩
        case round =>
          obtain ⟨k, hk, rfl, hall, hbw⟩ := hrel
          have hsw := hbw.out.size
          have HBW := Lib.hid (HB1.out.trans (hbw.out.mono hs1'))
          have hsW := HBW.out.size
          by_cases hlt : k < st.n
          · obtain ⟨b, o, rfl, hbl, c0, c1, c2, c3⟩ := (HS.out.p.below (HBW.out.mono hB)) k hlt
            have a0 := cell_same (hbw.out.block _ (by omega)) HA.out.1
            have hk0 : (0 : Int) ≤ (k : Int) := by omega
            have hkn : (k : Int) < (st.n : Int) := by omega
            have hrng := Lib.hid (HST.out.pk k hlt)
            have hc7 : (st.P k).cnt ≤ 7 := by
              have h1 := hrng.out
              unfold Pk.rng at h1
              unfold Pk.cnt Pk.hi
              omega
            obtain ⟨wo, rfl⟩ : ∃ wo, wo = wr := ⟨_, rfl⟩
            go_wp2_with fail
            refine (fouls_any (st.P k) hrng.out _).mono ?_
            rintro e w5 ⟨⟨oA, oc, rfl, hr, hoc, _⟩, hb5⟩
            have HBW5 := Lib.hid (hbw.out.trans (hb5.mono hsw))
            have HFR := Lib.hid hr
            have hs5 := hb5.size
            clear hb5 hr a0 c0 c1 c2 c3
            go_wp2_with fail
            go_loopw [12, 46] (fun v i wz => ∃ K : Nat, K ≤ (st.P k).cnt ∧ i = .int .i64 K ∧ v = .bool (posK (st.P k) (X k) (F k) (G k) K) ∧ Hid (Below w5.heap.size w5 wz)) (fun _ i _ => (st.P k).cnt - (intOf i).toNat)
            case atStart => exact ⟨0, by omega, rfl, by rw [posK_zero], Lib.hid (Below.refl _ _)⟩
            case round =>
              obtain ⟨K, hK, rfl, rfl, hbz⟩ := hrel
              have hsz := hbz.out.size
              have hbwz := Lib.hid (HBW5.out.trans (hbz.out.mono (by omega)))
              have HWZ := Lib.hid (HB1.out.trans (hbwz.out.mono hs1'))
              have hsZ := HWZ.out.size
              by_cases hltK : K < (st.P k).cnt
              · obtain ⟨b', o', hA', _, c0, c1, c2, c3⟩ := (HS.out.p.below (HWZ.out.mono hB)) k hlt
                injection hA' with hA'
                injection hA' with e1 e2
                subst e1 e2
                obtain ⟨lb, lo, rfl, hlb, l0⟩ := (HL.out.below HWZ.out) k hlt
                obtain ⟨qb, qo, rfl, hqb, q0⟩ := (HF.out.below HWZ.out) k hlt
                obtain ⟨ib, io, rfl, hib, i0⟩ := (HG.out.below HWZ.out) k hlt
                obtain ⟨ob, oo, rfl, hob, d0⟩ := HFR.out K hltK
                have d0 := cell_same (hbz.out.block _ hob) d0
                have a0 := cell_same (hbwz.out.block _ (by omega)) HA.out.1
                have hK0 : (0 : Int) ≤ (K : Int) := by omega
                have hKn : (K : Int) < ((st.P k).cnt : Int) := by omega
                have HSC := Lib.hid (posK_succ (st.P k) (X k) (F k) (G k) K)
                have HCAN := Lib.hid (show (0 ≤ X k ∧ X k ≤ (st.P k).s) ∧ 0 ≤ (st.P k).f + (K : Int) ∧ (st.P k).f + (K : Int) ≤ 6 from ⟨HX.out k hlt, by
                  have h1 := hrng.out
                  unfold Pk.rng at h1
                  unfold Pk.cnt Pk.hi at hltK
                  omega⟩)
                have HLK := Lib.hid hltK
                clear hltK
                cases hp : posK (st.P k) (X k) (F k) (G k) K with
                | true =>
                  have HV : Hid (posK (st.P k) (X k) (F k) (G k) (K + 1) = true) := Lib.hid (by rw [HSC.out, hp, Bool.true_or])
                  go_wp2_with fail
                  refine region_qbw (by kernel_rfl) (by kernel_rfl) ?_
                  have x0 := cell_regrown a0
                  have x1 := cell_regrown c0
                  have x2 := cell_regrown c1
                  have x3 := cell_regrown c2
                  have x4 := cell_regrown c3
                  have x5 := cell_regrown l0
                  have x6 := cell_regrown q0
                  have x7 := cell_regrown i0
                  clear a0 c0 c1 c2 c3 l0 q0 i0 d0
                  repeat (first | go_big_quiet_step (fail) | quiet_step (fail))
                  refine wpQuiet_nil ?_; intro wq hbq
                  clear x0 x1 x2 x3 x4 x5 x6 x7
                  have hbz2 := Lib.hid (hbz.out.trans (hbq.mono hsz))
                  clear hbq
                  go_wp2_with fail
                  go_roundw
                  case rel => exact ⟨K + 1, HLK.out, by go_num, by rw [HV.out], hbz2⟩
                  case measure => have := HLK.out; simp [intOf]; omega
                | false =>
                  cases he : ((st.P k).f + (K : Int) == F k) with
                  | false =>
                    have HV : Hid (posK (st.P k) (X k) (F k) (G k) (K + 1) = false) := Lib.hid (by rw [HSC.out, hp, decide_eq_false (by simpa using he)]; rfl)
                    go_wp2_with fail
                    refine region_qbw (by kernel_rfl) (by kernel_rfl) ?_
                    have x0 := cell_regrown a0
                    have x1 := cell_regrown c0
                    have x2 := cell_regrown c1
                    have x3 := cell_regrown c2
                    have x4 := cell_regrown c3
                    have x5 := cell_regrown l0
                    have x6 := cell_regrown q0
                    have x7 := cell_regrown i0
                    clear a0 c0 c1 c2 c3 l0 q0 i0 d0
                    repeat (first | go_big_quiet_step (fail) | quiet_step (fail))
                    refine wpQuiet_nil ?_; intro wq hbq
                    clear x0 x1 x2 x3 x4 x5 x6 x7
                    have hbz2 := Lib.hid (hbz.out.trans (hbq.mono hsz))
                    clear hbq
                    go_wp2_with fail
                    go_roundw
                    case rel => exact ⟨K + 1, HLK.out, by go_num, by rw [HV.out], hbz2⟩
                    case measure => have := HLK.out; simp [intOf]; omega
                  | true =>
                    have HV : Hid (posK (st.P k) (X k) (F k) (G k) (K + 1) = (st.P k).can (X k) ((st.P k).f + (K : Int)) (G k)) := Lib.hid (by
                      have e : (st.P k).f + (K : Int) = F k := by simpa using he
                      rw [HSC.out, hp, decide_eq_true e, Bool.false_or, Bool.true_and, e])
                    go_wp2_with fail
                    refine region_qbw (by kernel_rfl) (by kernel_rfl) ?_
                    have x0 := cell_regrown a0
                    have x1 := cell_regrown c0
                    have x2 := cell_regrown c1
                    have x3 := cell_regrown c2
                    have x4 := cell_regrown c3
                    have x5 := cell_regrown l0
                    have x6 := cell_regrown q0
                    have x7 := cell_regrown i0
                    clear a0 c0 c1 c2 c3 l0 q0 i0 d0
                    repeat (first | go_big_quiet_step ((go_at_call 123; exact Calls.regrown_of (can_any (st.P k) hrng.out _ _ _ HCAN.out.1 HCAN.out.2 _))) | quiet_step ((go_at_call 123; exact Calls.regrown_of (can_any (st.P k) hrng.out _ _ _ HCAN.out.1 HCAN.out.2 _))))
                    refine wpQuiet_nil ?_; intro wq hbq
                    clear x0 x1 x2 x3 x4 x5 x6 x7
                    have hbz2 := Lib.hid (hbz.out.trans (hbq.mono hsz))
                    clear hbq
                    go_wp2_with fail
                    go_roundw
                    case rel => exact ⟨K + 1, HLK.out, by go_num, by rw [HV.out], hbz2⟩
                    case measure => have := HLK.out; simp [intOf]; omega
              · have hK' : K = (st.P k).cnt := by omega
                have hge : ¬ (K : Int) < ((st.P k).cnt : Int) := by omega
                have HE : Hid (posK (st.P k) (X k) (F k) (G k) K = posB (st.P k) (X k) (F k) (G k)) := Lib.hid (by rw [hK', posK_all])
                rw [HE.out]
                clear hK'
                cases hp : posB (st.P k) (X k) (F k) (G k) with
                | true =>
                  have HP := Lib.hid hp
                  go_wp2_with fail
                  go_roundw
                  case rel => exact ⟨k + 1, by omega, by go_num, Lib.hid (fun j hj => by rcases Nat.lt_or_ge j k with h | h; exact hall.out j h; rw [show j = k from by omega]; exact HP.out), hbwz⟩
                  case measure => simp [intOf]; omega
                | false =>
                  have HV : Hid (st.possR st.n X st.n st.n F G = (false, 0)) := Lib.hid (by rw [HR.out, allN_false (k := k) hlt hp])
                  go_wp2_with fail
                  go_ret2
                  exact ⟨by rw [HV.out]; rfl, HWZ.out⟩
          · have hk' : k = st.n := by omega
            have hge : ¬ (k : Int) < (st.n : Int) := by omega
            have HV : Hid (st.possR st.n X st.n st.n F G = (true, 0)) := Lib.hid (by rw [HR.out, allN_iff.2 (fun j hj => hall.out j (by omega))])
            go_wp2_with fail
            go_ret2
            exact ⟨by rw [HV.out]; rfl, HBW.out⟩
      · have HR : Hid (st.possR st.n X fn gn F G = (false, 3)) := Lib.hid (by rw [HR0.out, if_pos (.inr hgn)])
        have hb1 : ((fn : Int) != (st.n : Int)) = false := by simp [hfn]
        have hb2 : ((gn : Int) != (st.n : Int)) = true := by rw [bne_iff_ne]; omega
        clear hfn hgn
        go_wp2_with fail
        go_ret2
        exact ⟨by rw [HR.out]; rfl, HB1.out⟩
    · have HR : Hid (st.possR st.n X fn gn F G = (false, 3)) := Lib.hid (by rw [HR0.out, if_pos (.inl hfn)])
      have hb1 : ((fn : Int) != (st.n : Int)) = true := by rw [bne_iff_ne]; omega
      clear hfn
      go_wp2_with fail
      go_ret2
      exact ⟨by rw [HR.out]; rfl, HB1.out⟩
  · have hnb : (st.askErr ln X != 0) = true := by simpa using h0
    have HR : Hid (st.possR ln X fn gn F G = (false, st.askErr ln X)) := Lib.hid (by unfold St.possR; rw [if_pos (by simpa using h0)])
    clear h0
    go_wp2_with fail
    go_ret2
    exact ⟨by rw [HR.out]; rfl, HB1.out⟩
end Go.Proofs.Ytegmomappbehcaa
