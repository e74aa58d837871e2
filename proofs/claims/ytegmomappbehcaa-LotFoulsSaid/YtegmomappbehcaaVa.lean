/- Possible of package lot. -/
import Derived.Test.YtegmomappbehcaaWy
import Derived.Test.YtegmomappbehcaaTo
set_option linter.unusedSimpArgs false
set_option linter.unusedVariables false
namespace Go.Proofs.Ytegmomappbehcaa
open Go.RowKit Go.Shelf

theorem posB_in (p : Pk) (x f g : Int) : posB p x f g = (inB f p.f p.hi && inB g 0 x && inB (f - g) 0 (p.s - x)) := by
  unfold posB inB
  rw [Bool.eq_iff_iff]
  simp only [Bool.and_eq_true, decide_eq_true_eq, Pk.can_iff]
  omega

set_option maxRecDepth 100000 in
set_option maxHeartbeats 4000000 in
theorem Possible_any (st : St) (B : Nat) (pA gA : Option Addr) (pc gc : Nat) (lA : Option Addr) (ln lc : Nat) (X : Nat → Int) (fA : Option Addr) (fn fc : Nat) (F : Nat → Int) (iA : Option Addr) (gn ic : Nat) (G : Nat → Int) (W : World) (hs : StRow W B st pA pc gA gc) (hl : IntRow W W.heap.size lA ln X) (hn : ln ≤ 1000)
    (hf : IntRow W W.heap.size fA fn F) (hg : IntRow W W.heap.size iA gn G) :
    Calls Try.prog 70 #[stV pA st.n pc gA st.m gc st.lots, .slice lA ln lc, .slice fA fn fc, .slice iA gn ic] W fun e W' => e = .returned (boV (st.possR ln X fn gn F G)) ∧ Below W.heap.size W W' := by
  have HS := Lib.hid hs; have hB := hs.lt; have HL := Lib.hid hl; clear hs hl
  have HF := Lib.hid hf
  have HG := Lib.hid hg
  clear hf hg
  go_enter Try.func70, Try.ntmps70
  go_wp2_with fail
  refine (asked_any st B pA gA pc gc lA ln lc X _ (HS.out.later (by repeat (first | (with_reducible exact Below.refl _ _) | (with_reducible refine Below.drew ?_) | (with_reducible refine below_drewN ?_ _) | ((with_reducible refine below_alloc ?_ ?_ _); · (first | exact Nat.le_refl _ | omega | (simp; done) | (simp; omega) | (simp at *; omega))) | ((with_reducible refine below_set ?_ ?_ _); · (first | exact Nat.le_refl _ | omega | (simp; done) | (simp; omega) | (simp at *; omega))) | ((with_reducible refine below_via (by with_reducible assumption) ?_ ?_); · (first | exact Nat.le_refl _ | omega | (simp; done) | (simp; omega) | (simp at *; omega)))))) (HL.out.later (by repeat (first | (with_reducible exact Below.refl _ _) | (with_reducible refine Below.drew ?_) | (with_reducible refine below_drewN ?_ _) | ((with_reducible refine below_alloc ?_ ?_ _); · (first | exact Nat.le_refl _ | omega | (simp; done) | (simp; omega) | (simp at *; omega))) | ((with_reducible refine below_set ?_ ?_ _); · (first | exact Nat.le_refl _ | omega | (simp; done) | (simp; omega) | (simp at *; omega))) | ((with_reducible refine below_via (by with_reducible assumption) ?_ ?_); · (first | exact Nat.le_refl _ | omega | (simp; done) | (simp; omega) | (simp at *; omega)))))) hn).mono ?_; rintro e w1 ⟨hb1, ⟨h0, db, rfl, hD, hdb⟩ | ⟨h0, p, rfl⟩⟩
  · have hs1 := hb1.size
    have HB1 := Lib.hid (show Below W.heap.size W w1 from (by repeat (first | (with_reducible exact Below.refl _ _) | (with_reducible refine Below.drew ?_) | (with_reducible refine below_drewN ?_ _) | ((with_reducible refine below_alloc ?_ ?_ _); · (first | exact Nat.le_refl _ | omega | (simp; done) | (simp; omega) | (simp at *; omega))) | ((with_reducible refine below_set ?_ ?_ _); · (first | exact Nat.le_refl _ | omega | (simp; done) | (simp; omega) | (simp at *; omega))) | ((with_reducible refine below_via (by with_reducible assumption) ?_ ?_); · (first | exact Nat.le_refl _ | omega | (simp; done) | (simp; omega) | (simp at *; omega))))))
    have HST := Lib.hid (St.askErr_ok h0).1
    have HD := Lib.hid hD
    have HX := Lib.hid (ask_rng h0)
    have HR0 : Hid (st.possR ln X fn gn F G = if fn ≠ st.n ∨ gn ≠ st.n then (false, 3) else (allN (fun k => posB (st.P k) (X k) (F k) (G k)) st.n, 0)) := Lib.hid (by unfold St.possR; rw [if_neg (by simp [h0])])
    obtain rfl : ln = st.n := (St.askErr_ok h0).2.2
    have a0 : w1.cell? ⟨W.heap.size, 0, none⟩ = some (.slice pA st.n pc) := cell_below_of hb1 (by (repeat' refine And.intro ?_ ?_) <;> (repeat (first | (with_reducible assumption) | (simp; done) | (with_reducible refine cell_drew_of ?_) | (with_reducible refine cell_drewN_of ?_) | (with_reducible refine cell_below_of (by with_reducible assumption) ?_) | ((with_reducible refine cell_new_of ?_ ?_) <;> (first | (with_reducible rfl) | (simp; done))) | ((with_reducible refine fro_new_of ?_) <;> (first | (with_reducible rfl) | (simp; done))) | (with_reducible refine cell_alloc_of _ ?_) | (with_reducible refine cell_set_of _ (by (first | exact Nat.le_refl _ | omega | (simp; done) | (simp; omega))) ?_) | (with_reducible refine fro_drew_of ?_) | (with_reducible refine fro_drewN_of ?_) | (with_reducible refine fro_below_of (by with_reducible assumption) (by (first | exact Nat.le_refl _ | omega | (simp; done) | (simp; omega))) ?_) | (with_reducible refine fro_alloc_of _ (by (first | exact Nat.le_refl _ | omega | (simp; done) | (simp; omega))) ?_) | (with_reducible refine fro_set_of _ ?_))))
    have n4 := HST.out.n4
    have HXB := Lib.hid (fun k (hk : k < st.n) => bagOf_at (X := X) hk (show k < 4 by omega))
    simp only [World.size_alloc] at hdb hs1
    obtain ⟨pA', pc', gA', gc', hpr, _, q0, _, _, _⟩ := hD.rows
    have HPR := Lib.hid hpr
    have hdl := hD.lt
    generalize bagOf X st.n = x at *
    clear hb1 hD h0 hpr
    by_cases hfn : fn = st.n
    · by_cases hgn : gn = st.n
      · have HR : Hid (st.possR st.n X fn gn F G = (allN (fun k => posB (st.P k) (X k) (F k) (G k)) st.n, 0)) := Lib.hid (by rw [HR0.out, if_neg (by simp [hfn, hgn])])
        subst hfn
        subst hgn
        have hq : ((st.n : Int) != (st.n : Int)) = false := by simp
        go_wp2_with fail
        refine wp_world (fun W2 => BagAt W2 w1.heap.size x ∧ W2.cell? ⟨db, 0, none⟩ = some (.slice pA' st.n pc') ∧ Below w1.heap.size w1 W2 ∧ w1.heap.size < W2.heap.size) ⟨(by (repeat' refine And.intro ?_ ?_) <;> (repeat (first | (with_reducible assumption) | (simp; done) | (with_reducible refine cell_drew_of ?_) | (with_reducible refine cell_drewN_of ?_) | (with_reducible refine cell_below_of (by with_reducible assumption) ?_) | ((with_reducible refine cell_new_of ?_ ?_) <;> (first | (with_reducible rfl) | (simp; done))) | ((with_reducible refine fro_new_of ?_) <;> (first | (with_reducible rfl) | (simp; done))) | (with_reducible refine cell_alloc_of _ ?_) | (with_reducible refine cell_set_of _ (by (first | exact Nat.le_refl _ | omega | (simp; done) | (simp; omega))) ?_) | (with_reducible refine fro_drew_of ?_) | (with_reducible refine fro_drewN_of ?_) | (with_reducible refine fro_below_of (by with_reducible assumption) (by (first | exact Nat.le_refl _ | omega | (simp; done) | (simp; omega))) ?_) | (with_reducible refine fro_alloc_of _ (by (first | exact Nat.le_refl _ | omega | (simp; done) | (simp; omega))) ?_) | (with_reducible refine fro_set_of _ ?_)))), cell_alloc_of _ q0, (by repeat (first | (with_reducible exact Below.refl _ _) | (with_reducible refine Below.drew ?_) | (with_reducible refine below_drewN ?_ _) | ((with_reducible refine below_alloc ?_ ?_ _); · (first | exact Nat.le_refl _ | omega | (simp; done) | (simp; omega) | (simp at *; omega))) | ((with_reducible refine below_set ?_ ?_ _); · (first | exact Nat.le_refl _ | omega | (simp; done) | (simp; omega) | (simp at *; omega))) | ((with_reducible refine below_via (by with_reducible assumption) ?_ ?_); · (first | exact Nat.le_refl _ | omega | (simp; done) | (simp; omega) | (simp at *; omega))))), by simp⟩ ?_
        rintro W2 ⟨hbag, _, hb2, hs2⟩
        have HBG := Lib.hid hbag
        have HB2 := Lib.hid hb2
        clear hbag hb2 q0 a0
        go_loopw [47] (fun i wr => ∃ k : Nat, k ≤ st.n ∧ i = .int .i64 k ∧ Hid (∀ j, j < k → posB (st.P j) (X j) (F j) (G j) = true) ∧ Hid (Below W2.heap.size W2 wr)) (fun i _ => st.n - (intOf i).toNat)
        case atStart => exact ⟨0, by omega, rfl, Lib.hid (fun j hj => absurd hj (by omega)), Lib.hid (Below.refl _ _)⟩
        case round =>
          obtain ⟨k, hk, rfl, hall, hbw⟩ := hrel
          have hsw := hbw.out.size
          have HBW := Lib.hid ((HB1.out.trans (HB2.out.mono (by omega))).trans (hbw.out.mono (by omega)))
          have hsW := HBW.out.size
          by_cases hlt : k < st.n
          · obtain ⟨b, o, rfl, hbl, c0, c1, c2, c3⟩ := (HPR.out.below ((Below.refl B w1).trans ((HB2.out.mono (by omega)).trans (hbw.out.mono (by omega))))) k hlt
            obtain ⟨qb, qo, rfl, hqb, r0⟩ := (HF.out.below HBW.out) k hlt
            obtain ⟨ib, io, rfl, hib, i0⟩ := (HG.out.below HBW.out) k hlt
            have hk0 : (0 : Int) ≤ (k : Int) := by omega
            have hkn : (k : Int) < (st.n : Int) := by omega
            have hk4 : (k : Int) < 4 := by omega
            have hrng := HST.out.pk k hlt
            have HRG := Lib.hid hrng
            have hx := HX.out k hlt
            have bg := ((HBG.out.same (hbw.out.block _ hs2)).cell k (by omega)).1
            rw [HXB.out k hlt] at bg
            have HPOS := Lib.hid (posB_in (st.P k) (X k) (F k) (G k))
            unfold Pk.rng at hrng
            have ew0 : IntKind.i64.wrap ((st.P k).s - X k) = (st.P k).s - X k := IntWalk.i64_in _ (by omega)
            clear hrng
            go_upto_region 9 with fail
            refine wp_world (fun W5 => (W5.cell? ⟨wr.heap.size, 0, none⟩ = some (.int .i64 (st.P k).s) ∧ W5.cell? ⟨wr.heap.size, 1, none⟩ = some (.int .i64 (st.P k).w) ∧ W5.cell? ⟨wr.heap.size, 2, none⟩ = some (.int .i64 (st.P k).o) ∧ W5.cell? ⟨wr.heap.size, 3, none⟩ = some (.int .i64 (st.P k).f) ∧ W5.cell? ⟨qb, qo + k, none⟩ = some (.int .i64 (F k)) ∧ W5.cell? ⟨ib, io + k, none⟩ = some (.int .i64 (G k)) ∧ W5.cell? ⟨w1.heap.size, k, none⟩ = some (.int .i64 (X k))) ∧ Below wr.heap.size wr W5) ⟨(by (repeat' refine And.intro ?_ ?_) <;> (repeat (first | (with_reducible assumption) | (simp; done) | (with_reducible refine cell_drew_of ?_) | (with_reducible refine cell_drewN_of ?_) | (with_reducible refine cell_below_of (by with_reducible assumption) ?_) | ((with_reducible refine cell_new_of ?_ ?_) <;> (first | (with_reducible rfl) | (simp; done))) | ((with_reducible refine fro_new_of ?_) <;> (first | (with_reducible rfl) | (simp; done))) | (with_reducible refine cell_alloc_of _ ?_) | (with_reducible refine cell_set_of _ (by (first | exact Nat.le_refl _ | omega | (simp; done) | (simp; omega))) ?_) | (with_reducible refine fro_drew_of ?_) | (with_reducible refine fro_drewN_of ?_) | (with_reducible refine fro_below_of (by with_reducible assumption) (by (first | exact Nat.le_refl _ | omega | (simp; done) | (simp; omega))) ?_) | (with_reducible refine fro_alloc_of _ (by (first | exact Nat.le_refl _ | omega | (simp; done) | (simp; omega))) ?_) | (with_reducible refine fro_set_of _ ?_)))), (by repeat (first | (with_reducible exact Below.refl _ _) | (with_reducible refine Below.drew ?_) | (with_reducible refine below_drewN ?_ _) | ((with_reducible refine below_alloc ?_ ?_ _); · (first | exact Nat.le_refl _ | omega | (simp; done) | (simp; omega) | (simp at *; omega))) | ((with_reducible refine below_set ?_ ?_ _); · (first | exact Nat.le_refl _ | omega | (simp; done) | (simp; omega) | (simp at *; omega))) | ((with_reducible refine below_via (by with_reducible assumption) ?_ ?_); · (first | exact Nat.le_refl _ | omega | (simp; done) | (simp; omega) | (simp at *; omega)))))⟩ ?_
            rintro W5 ⟨⟨y0, y1, y2, y3, y4, y5, y6⟩, hb5⟩
            have HW5 := Lib.hid (HBW.out.trans (hb5.mono hsW))
            have HB5 := Lib.hid (hbw.out.trans (hb5.mono hsw))
            clear hb5 c0 c1 c2 c3 r0 i0 bg
            cases j1 : inB (F k) (st.P k).f (min (st.P k).w ((st.P k).s - (st.P k).o + (st.P k).f)) with
            | false =>
              have HV : Hid (st.possR st.n X st.n st.n F G = (false, 0)) := Lib.hid (by rw [HR.out, allN_false (k := k) hlt (by rw [HPOS.out, show inB (F k) (st.P k).f (st.P k).hi = false from j1]; rfl)])
              refine region_qbw (by kernel_rfl) (by kernel_rfl) ?_
              have x0 := cell_regrown y0
              have x1 := cell_regrown y1
              have x2 := cell_regrown y2
              have x3 := cell_regrown y3
              have x4 := cell_regrown y4
              have x5 := cell_regrown y5
              have x6 := cell_regrown y6
              clear y0 y1 y2 y3 y4 y5 y6
              repeat (first | go_big_quiet_step (first | (go_at_call 99; exact Calls.regrown_of (pspan_any _ _ _ _ _ HRG.out.1 HRG.out.2.2.1 HRG.out.2.2.2)) | (go_at_call 77; exact Calls.regrown_of (in_bel _ _ _ _))) | quiet_step (first | (go_at_call 99; exact Calls.regrown_of (pspan_any _ _ _ _ _ HRG.out.1 HRG.out.2.2.1 HRG.out.2.2.2)) | (go_at_call 77; exact Calls.regrown_of (in_bel _ _ _ _))))
              refine wpQuiet_nil ?_; intro wq hbq
              clear x0 x1 x2 x3 x4 x5 x6
              have HWQ := Lib.hid (HW5.out.trans (hbq.mono HW5.out.size))
              have hbwq := Lib.hid (HB5.out.trans (hbq.mono HB5.out.size))
              clear hbq
              rw [j1]
              go_wp2_with fail
              go_ret2
              exact ⟨by rw [HV.out]; rfl, HWQ.out⟩
            | true =>
              cases j2 : inB (G k) 0 (X k) with
              | false =>
                have HV : Hid (st.possR st.n X st.n st.n F G = (false, 0)) := Lib.hid (by rw [HR.out, allN_false (k := k) hlt (by rw [HPOS.out, j2, Bool.and_false]; rfl)])
                refine region_qbw (by kernel_rfl) (by kernel_rfl) ?_
                have x0 := cell_regrown y0
                have x1 := cell_regrown y1
                have x2 := cell_regrown y2
                have x3 := cell_regrown y3
                have x4 := cell_regrown y4
                have x5 := cell_regrown y5
                have x6 := cell_regrown y6
                clear y0 y1 y2 y3 y4 y5 y6
                repeat (first | go_big_quiet_step (first | (go_at_call 99; exact Calls.regrown_of (pspan_any _ _ _ _ _ HRG.out.1 HRG.out.2.2.1 HRG.out.2.2.2)) | (go_at_call 77; exact Calls.regrown_of (in_bel _ _ _ _))) | quiet_step (first | (go_at_call 99; exact Calls.regrown_of (pspan_any _ _ _ _ _ HRG.out.1 HRG.out.2.2.1 HRG.out.2.2.2)) | (go_at_call 77; exact Calls.regrown_of (in_bel _ _ _ _))))
                refine wpQuiet_nil ?_; intro wq hbq
                clear x0 x1 x2 x3 x4 x5 x6
                have HWQ := Lib.hid (HW5.out.trans (hbq.mono HW5.out.size))
                have hbwq := Lib.hid (HB5.out.trans (hbq.mono HB5.out.size))
                clear hbq
                rw [j1]
                rw [j2]
                go_wp2_with fail
                go_ret2
                exact ⟨by rw [HV.out]; rfl, HWQ.out⟩
              | true =>
                have jf : (st.P k).f ≤ F k ∧ F k ≤ min (st.P k).w ((st.P k).s - (st.P k).o + (st.P k).f) := by simpa [inB] using j1
                have jg : 0 ≤ G k ∧ G k ≤ X k := by simpa [inB] using j2
                have hrg := HRG.out
                unfold Pk.rng at hrg
                have ew1 : IntKind.i64.wrap (F k - G k) = F k - G k := IntWalk.i64_in _ (by omega)
                clear jf jg hrg
                cases j3 : inB (F k - G k) 0 ((st.P k).s - X k) with
                | false =>
                  have HV : Hid (st.possR st.n X st.n st.n F G = (false, 0)) := Lib.hid (by rw [HR.out, allN_false (k := k) hlt (by rw [HPOS.out, j3, Bool.and_false])])
                  refine region_qbw (by kernel_rfl) (by kernel_rfl) ?_
                  have x0 := cell_regrown y0
                  have x1 := cell_regrown y1
                  have x2 := cell_regrown y2
                  have x3 := cell_regrown y3
                  have x4 := cell_regrown y4
                  have x5 := cell_regrown y5
                  have x6 := cell_regrown y6
                  clear y0 y1 y2 y3 y4 y5 y6
                  repeat (first | go_big_quiet_step (first | (go_at_call 99; exact Calls.regrown_of (pspan_any _ _ _ _ _ HRG.out.1 HRG.out.2.2.1 HRG.out.2.2.2)) | (go_at_call 77; exact Calls.regrown_of (in_bel _ _ _ _))) | quiet_step (first | (go_at_call 99; exact Calls.regrown_of (pspan_any _ _ _ _ _ HRG.out.1 HRG.out.2.2.1 HRG.out.2.2.2)) | (go_at_call 77; exact Calls.regrown_of (in_bel _ _ _ _))))
                  refine wpQuiet_nil ?_; intro wq hbq
                  clear x0 x1 x2 x3 x4 x5 x6
                  have HWQ := Lib.hid (HW5.out.trans (hbq.mono HW5.out.size))
                  have hbwq := Lib.hid (HB5.out.trans (hbq.mono HB5.out.size))
                  clear hbq
                  rw [j1, j2]
                  rw [j3]
                  go_wp2_with fail
                  go_ret2
                  exact ⟨by rw [HV.out]; rfl, HWQ.out⟩
                | true =>
                  have HP : Hid (posB (st.P k) (X k) (F k) (G k) = true) := Lib.hid (by rw [HPOS.out, j2, j3, show inB (F k) (st.P k).f (st.P k).hi = true from j1]; rfl)
                  refine region_qbw (by kernel_rfl) (by kernel_rfl) ?_
                  have x0 := cell_regrown y0
                  have x1 := cell_regrown y1
                  have x2 := cell_regrown y2
                  have x3 := cell_regrown y3
                  have x4 := cell_regrown y4
                  have x5 := cell_regrown y5
                  have x6 := cell_regrown y6
                  clear y0 y1 y2 y3 y4 y5 y6
                  repeat (first | go_big_quiet_step (first | (go_at_call 99; exact Calls.regrown_of (pspan_any _ _ _ _ _ HRG.out.1 HRG.out.2.2.1 HRG.out.2.2.2)) | (go_at_call 77; exact Calls.regrown_of (in_bel _ _ _ _))) | quiet_step (first | (go_at_call 99; exact Calls.regrown_of (pspan_any _ _ _ _ _ HRG.out.1 HRG.out.2.2.1 HRG.out.2.2.2)) | (go_at_call 77; exact Calls.regrown_of (in_bel _ _ _ _))))
                  refine wpQuiet_nil ?_; intro wq hbq
                  clear x0 x1 x2 x3 x4 x5 x6
                  have HWQ := Lib.hid (HW5.out.trans (hbq.mono HW5.out.size))
                  have hbwq := Lib.hid (HB5.out.trans (hbq.mono HB5.out.size))
                  clear hbq
                  rw [j1, j2, j3]
                  go_wp2_with fail
                  go_roundw
                  case rel => exact ⟨k + 1, by omega, by go_num, Lib.hid (fun j hj => by rcases Nat.lt_or_ge j k with h | h; exact hall.out j h; rw [show j = k from by omega]; exact HP.out), hbwq⟩
                  case measure => simp [intOf]; omega
          · have hk' : k = st.n := by omega
            have hge : ¬ (k : Int) < (st.n : Int) := by omega
            have HV : Hid (st.possR st.n X st.n st.n F G = (true, 0)) := Lib.hid (by rw [HR.out, allN_iff.2 (fun j hj => hall.out j (by omega))])
            go_wp2_with fail
            go_ret2
            exact ⟨by rw [HV.out]; rfl, HBW.out⟩
      · have HR : Hid (st.possR st.n X fn gn F G = (false, 3)) := Lib.hid (by rw [HR0.out, if_pos (.inr hgn)])
        have hb1 : ((fn : Int) != (st.n : Int)) = false := by simp [hfn]
        have hb2 : ((gn : Int) != (st.n : Int)) = true := by rw [bne_iff_ne]; omega
        have hbo := HB1.out
        clear hfn hgn
        go_wp2_with fail
        go_ret2
        exact ⟨by rw [HR.out]; rfl, (by repeat (first | (with_reducible exact Below.refl _ _) | (with_reducible refine Below.drew ?_) | (with_reducible refine below_drewN ?_ _) | ((with_reducible refine below_alloc ?_ ?_ _); · (first | exact Nat.le_refl _ | omega | (simp; done) | (simp; omega) | (simp at *; omega))) | ((with_reducible refine below_set ?_ ?_ _); · (first | exact Nat.le_refl _ | omega | (simp; done) | (simp; omega) | (simp at *; omega))) | ((with_reducible refine below_via (by with_reducible assumption) ?_ ?_); · (first | exact Nat.le_refl _ | omega | (simp; done) | (simp; omega) | (simp at *; omega)))))⟩
    · have HR : Hid (st.possR st.n X fn gn F G = (false, 3)) := Lib.hid (by rw [HR0.out, if_pos (.inl hfn)])
      have hb1 : ((fn : Int) != (st.n : Int)) = true := by rw [bne_iff_ne]; omega
      have hbo := HB1.out
      clear hfn
      go_wp2_with fail
      go_ret2
      exact ⟨by rw [HR.out]; rfl, (by repeat (first | (with_reducible exact Below.refl _ _) | (with_reducible refine Below.drew ?_) | (with_reducible refine below_drewN ?_ _) | ((with_reducible refine below_alloc ?_ ?_ _); · (first | exact Nat.le_refl _ | omega | (simp; done) | (simp; omega) | (simp at *; omega))) | ((with_reducible refine below_set ?_ ?_ _); · (first | exact Nat.le_refl _ | omega | (simp; done) | (simp; omega) | (simp at *; omega))) | ((with_reducible refine below_via (by with_reducible assumption) ?_ ?_); · (first | exact Nat.le_refl _ | omega | (simp; done) | (simp; omega) | (simp at *; omega)))))⟩
  · have hnb : (st.askErr ln X != 0) = true := by simpa using h0
    have HR : Hid (st.possR ln X fn gn F G = (false, st.askErr ln X)) := Lib.hid (by unfold St.possR; rw [if_pos (by simpa using h0)])
    have hs1 := hb1.size
    simp only [World.size_alloc] at hs1
    clear h0
    go_wp2_with fail
    go_ret2
    exact ⟨by rw [HR.out]; rfl, (by repeat (first | (with_reducible exact Below.refl _ _) | (with_reducible refine Below.drew ?_) | (with_reducible refine below_drewN ?_ _) | ((with_reducible refine below_alloc ?_ ?_ _); · (first | exact Nat.le_refl _ | omega | (simp; done) | (simp; omega) | (simp at *; omega))) | ((with_reducible refine below_set ?_ ?_ _); · (first | exact Nat.le_refl _ | omega | (simp; done) | (simp; omega) | (simp at *; omega))) | ((with_reducible refine below_via (by with_reducible assumption) ?_ ?_); · (first | exact Nat.le_refl _ | omega | (simp; done) | (simp; omega) | (simp at *; omega)))))⟩
end Go.Proofs.Ytegmomappbehcaa
