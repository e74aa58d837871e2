/- The reference: Earns. -/
import Derived.Test.YtegmomappbehcaaTk
set_option linter.unusedSimpArgs false
set_option linter.unusedVariables false
namespace Go.Proofs.Ytegmomappbehcaa
open Go.RowKit Go.Shelf

/-- rows of numbers, of any lengths -/
def PlanRow (w : World) (B : Nat) (A : Option Addr) (m : Nat) (L : Nat → Nat × (Nat → Int)) : Prop :=
  ∀ k, k < m → ∃ b o rA rc, A = some ⟨b, o, none⟩ ∧ b < B ∧ w.cell? ⟨b, o + k, none⟩ = some (.slice rA (L k).1 rc) ∧ (L k).1 ≤ rc ∧ IntRow w B rA (L k).1 (L k).2
theorem PlanRow.later {w w' : World} {A : Option Addr} {m : Nat} {L : Nat → Nat × (Nat → Int)} (h : PlanRow w w.heap.size A m L) (hb : Below w.heap.size w w') : PlanRow w' w'.heap.size A m L := fun k hk => by
  obtain ⟨b, o, rA, rc, h1, h2, h3, h4, h5⟩ := h k hk
  exact ⟨b, o, rA, rc, h1, Nat.lt_of_lt_of_le h2 hb.size, (hb.cell (p := ⟨b, _, none⟩) h2).trans h3, h4, h5.later hb⟩
/-- the first of some errors -/
def firstErr (f : Nat → Int) : Nat → Int
  | 0 => 0
  | k + 1 => if firstErr f k ≠ 0 then firstErr f k else f k
theorem firstErr_zero {f : Nat → Int} : ∀ {k : Nat}, (∀ j, j < k → f j = 0) → firstErr f k = 0
  | 0, _ => rfl
  | k + 1, h => by
    unfold firstErr
    rw [if_neg (by rw [firstErr_zero (fun j hj => h j (by omega))]; simp), h k (by omega)]
theorem firstErr_at {f : Nat → Int} {k : Nat} (h : ∀ j, j < k → f j = 0) (hk : f k ≠ 0) : ∀ m, k < m → firstErr f m = f k
  | 0, h => absurd h (by omega)
  | m + 1, hm => by
    unfold firstErr
    by_cases e : k = m
    · subst e
      rw [if_neg (by rw [firstErr_zero h]; simp)]
    · have := firstErr_at h hk m (by omega)
      rw [this, if_pos hk]
theorem firstErr_all {f : Nat → Int} : ∀ {m : Nat}, firstErr f m = 0 → ∀ j, j < m → f j = 0
  | 0, _, j, hj => absurd hj (by omega)
  | m + 1, h, j, hj => by
    unfold firstErr at h
    by_cases h1 : firstErr f m = 0
    · rw [if_neg (by simpa using h1)] at h
      by_cases e : j = m
      · subst e; exact h
      · exact firstErr_all h1 j (by omega)
    · rw [if_pos h1] at h
      exact absurd h h1
/-- how many sacks of a picking a plan has -/
def planSum (m : Nat) (L : Nat → Nat × (Nat → Int)) (p : Nat) : Int := sumN (fun j => (L j).2 p) m
def St.earnsErr (st : St) (m : Nat) (L : Nat → Nat × (Nat → Int)) : Int :=
  if st.check ≠ 0 then st.check else if st.lots < m then 3
  else if firstErr (fun j => st.lotErr (L j).1 (L j).2) m ≠ 0 then firstErr (fun j => st.lotErr (L j).1 (L j).2) m
  else if allN (fun p => decide (planSum m L p ≤ (st.P p).s)) st.n = false then 8 else 0
def St.earnsR (st : St) (m : Nat) (L : Nat → Nat × (Nat → Int)) : Int × Int :=
  if st.earnsErr m L ≠ 0 then (0, st.earnsErr m L) else (sumN (fun j => st.brings (bagOf (L j).2 st.n)) m, 0)
theorem lot_ok {st : St} {n : Nat} {X : Nat → Int} (h : st.lotErr n X = 0) : n = st.n ∧ ∀ k, k < st.n → 0 ≤ X k ∧ X k ≤ (st.P k).s := by
  have hn : n = st.n := by
    by_cases h2 : n = st.n
    · exact h2
    · unfold St.lotErr at h; rw [if_pos h2] at h; cases h
  subst hn
  refine ⟨rfl, fun k hk => ?_⟩
  unfold St.lotErr at h
  rw [if_neg (by simp)] at h
  by_cases h2 : allN (fun k => inB (X k) 0 (st.P k).s) st.n = false
  · rw [if_pos h2] at h; cases h
  simp only [Bool.not_eq_false] at h2
  simpa [inB] using allN_iff.1 h2 k hk

set_option maxRecDepth 100000 in
set_option maxHeartbeats 4000000 in
theorem rEarns_any (st : St) (B : Nat) (pA gA : Option Addr) (pc gc : Nat) (A : Option Addr) (m c : Nat) (L : Nat → Nat × (Nat → Int)) (W : World) (hs : StRow W B st pA pc gA gc) (hl : PlanRow W W.heap.size A m L) (hm : m ≤ 1000) (hlen : ∀ k, k < m → (L k).1 ≤ 1000) :
    Calls Try.prog 62 #[stV pA st.n pc gA st.m gc st.lots, .slice A m c] W fun e W' => e = .returned (nuV (st.earnsR m L)) ∧ Below W.heap.size W W' := by
  have HS := Lib.hid hs; have HL := Lib.hid hl; have hB := hs.lt; clear hs hl
  have HLEN := Lib.hid hlen
  clear hlen
  go_enter Try.func62, Try.ntmps62
  go_wp2_with fail
  refine (rcheck_any st B pA gA pc gc _ (HS.out.later (by repeat (first | (with_reducible exact Below.refl _ _) | (with_reducible refine Below.drew ?_) | (with_reducible refine below_drewN ?_ _) | ((with_reducible refine below_alloc ?_ ?_ _); · (first | exact Nat.le_refl _ | omega | (simp; done) | (simp; omega) | (simp at *; omega))) | ((with_reducible refine below_set ?_ ?_ _); · (first | exact Nat.le_refl _ | omega | (simp; done) | (simp; omega) | (simp at *; omega))) | ((with_reducible refine below_via (by with_reducible assumption) ?_ ?_); · (first | exact Nat.le_refl _ | omega | (simp; done) | (simp; omega) | (simp at *; omega))))))).mono ?_
  rintro e w1 ⟨rfl, hb1⟩
  have HB1 := Lib.hid (show Below W.heap.size W w1 from (by repeat (first | (with_reducible exact Below.refl _ _) | (with_reducible refine Below.drew ?_) | (with_reducible refine below_drewN ?_ _) | ((with_reducible refine below_alloc ?_ ?_ _); · (first | exact Nat.le_refl _ | omega | (simp; done) | (simp; omega) | (simp at *; omega))) | ((with_reducible refine below_set ?_ ?_ _); · (first | exact Nat.le_refl _ | omega | (simp; done) | (simp; omega) | (simp at *; omega))) | ((with_reducible refine below_via (by with_reducible assumption) ?_ ?_); · (first | exact Nat.le_refl _ | omega | (simp; done) | (simp; omega) | (simp at *; omega))))))
  have hs1 := hb1.size
  simp only [World.size_alloc] at hs1
  have HA := Lib.hid (show w1.cell? ⟨W.heap.size, 0, none⟩ = some (.slice pA st.n pc) ∧ w1.cell? ⟨W.heap.size, 1, none⟩ = some (.slice gA st.m gc) ∧ w1.cell? ⟨W.heap.size, 2, none⟩ = some (.int .i64 st.lots) from ⟨cell_below_of hb1 (by (repeat' refine And.intro ?_ ?_) <;> (repeat (first | (with_reducible assumption) | (simp; done) | (with_reducible refine cell_drew_of ?_) | (with_reducible refine cell_drewN_of ?_) | (with_reducible refine cell_below_of (by with_reducible assumption) ?_) | ((with_reducible refine cell_new_of ?_ ?_) <;> (first | (with_reducible rfl) | (simp; done))) | ((with_reducible refine fro_new_of ?_) <;> (first | (with_reducible rfl) | (simp; done))) | (with_reducible refine cell_alloc_of _ ?_) | (with_reducible refine cell_set_of _ (by (first | exact Nat.le_refl _ | omega | (simp; done) | (simp; omega))) ?_) | (with_reducible refine fro_drew_of ?_) | (with_reducible refine fro_drewN_of ?_) | (with_reducible refine fro_below_of (by with_reducible assumption) (by (first | exact Nat.le_refl _ | omega | (simp; done) | (simp; omega))) ?_) | (with_reducible refine fro_alloc_of _ (by (first | exact Nat.le_refl _ | omega | (simp; done) | (simp; omega))) ?_) | (with_reducible refine fro_set_of _ ?_)))), cell_below_of hb1 (by (repeat' refine And.intro ?_ ?_) <;> (repeat (first | (with_reducible assumption) | (simp; done) | (with_reducible refine cell_drew_of ?_) | (with_reducible refine cell_drewN_of ?_) | (with_reducible refine cell_below_of (by with_reducible assumption) ?_) | ((with_reducible refine cell_new_of ?_ ?_) <;> (first | (with_reducible rfl) | (simp; done))) | ((with_reducible refine fro_new_of ?_) <;> (first | (with_reducible rfl) | (simp; done))) | (with_reducible refine cell_alloc_of _ ?_) | (with_reducible refine cell_set_of _ (by (first | exact Nat.le_refl _ | omega | (simp; done) | (simp; omega))) ?_) | (with_reducible refine fro_drew_of ?_) | (with_reducible refine fro_drewN_of ?_) | (with_reducible refine fro_below_of (by with_reducible assumption) (by (first | exact Nat.le_refl _ | omega | (simp; done) | (simp; omega))) ?_) | (with_reducible refine fro_alloc_of _ (by (first | exact Nat.le_refl _ | omega | (simp; done) | (simp; omega))) ?_) | (with_reducible refine fro_set_of _ ?_)))), cell_below_of hb1 (by (repeat' refine And.intro ?_ ?_) <;> (repeat (first | (with_reducible assumption) | (simp; done) | (with_reducible refine cell_drew_of ?_) | (with_reducible refine cell_drewN_of ?_) | (with_reducible refine cell_below_of (by with_reducible assumption) ?_) | ((with_reducible refine cell_new_of ?_ ?_) <;> (first | (with_reducible rfl) | (simp; done))) | ((with_reducible refine fro_new_of ?_) <;> (first | (with_reducible rfl) | (simp; done))) | (with_reducible refine cell_alloc_of _ ?_) | (with_reducible refine cell_set_of _ (by (first | exact Nat.le_refl _ | omega | (simp; done) | (simp; omega))) ?_) | (with_reducible refine fro_drew_of ?_) | (with_reducible refine fro_drewN_of ?_) | (with_reducible refine fro_below_of (by with_reducible assumption) (by (first | exact Nat.le_refl _ | omega | (simp; done) | (simp; omega))) ?_) | (with_reducible refine fro_alloc_of _ (by (first | exact Nat.le_refl _ | omega | (simp; done) | (simp; omega))) ?_) | (with_reducible refine fro_set_of _ ?_))))⟩)
  clear hb1
  by_cases h0 : st.check = 0
  · have hnb : (st.check != 0) = false := by simpa using h0
    have HO := Lib.hid (St.check_ok.1 h0)
    have HE0 : Hid (st.earnsErr m L = if st.lots < m then 3 else if firstErr (fun j => st.lotErr (L j).1 (L j).2) m ≠ 0 then firstErr (fun j => st.lotErr (L j).1 (L j).2) m
      else if allN (fun p => decide (planSum m L p ≤ (st.P p).s)) st.n = false then 8 else 0) := Lib.hid (by unfold St.earnsErr; rw [if_neg (by simp [h0])])
    have HASK := Lib.hid (fun (n : Nat) (X : Nat → Int) => show st.askErr n X = st.lotErr n X by unfold St.askErr; rw [if_neg (by simp [h0])])
    obtain ⟨a0, a1, a2⟩ := HA.out
    have n4 := HO.out.n4
    have l3 := HO.out.l3
    have hs1' := HB1.out.size
    clear h0
    by_cases hlt : st.lots < (m : Int)
    · have HR : Hid (st.earnsR m L = (0, 3)) := Lib.hid (by unfold St.earnsR; rw [HE0.out, if_pos hlt]; rfl)
      go_wp2_with fail
      go_ret2
      exact ⟨by rw [HR.out]; rfl, HB1.out⟩
    · have HE1 : Hid (st.earnsErr m L = if firstErr (fun j => st.lotErr (L j).1 (L j).2) m ≠ 0 then firstErr (fun j => st.lotErr (L j).1 (L j).2) m
        else if allN (fun p => decide (planSum m L p ≤ (st.P p).s)) st.n = false then 8 else 0) := Lib.hid (by rw [HE0.out, if_neg hlt])
      have hm3 : m ≤ 3 := by omega
      clear a0 a1 a2
      have a2 := HA.out.2.2
      go_wp2_with fail
      go_loopw [7, 8] (fun v i wr => ∃ k : Nat, k ≤ m ∧ i = .int .i64 k ∧ v = .int .i64 (sumN (fun j => st.brings (bagOf (L j).2 st.n)) k) ∧ Hid (∀ j, j < k → st.lotErr (L j).1 (L j).2 = 0) ∧ Hid (Below w1.heap.size w1 wr)) (fun _ i _ => m - (intOf i).toNat)
      case atStart => exact ⟨0, by omega, rfl, rfl, Lib.hid (fun j hj => absurd hj (by omega)), Lib.hid (Below.refl _ _)⟩
      case round =>
        obtain ⟨k, hk, rfl, rfl, hall, hbw⟩ := hrel
        have hsw := hbw.out.size
        have HBW := Lib.hid (HB1.out.trans (hbw.out.mono hs1'))
        have hsW := HBW.out.size
        clear a2
        have bds := sumN_bd2 (fun j => st.brings (bagOf (L j).2 st.n)) k 2400 (fun j hj => by
          have h1 := lot_ok (hall.out j hj)
          exact St.brings_bd HO.out (rng_in HO.out h1.2))
        by_cases hltk : k < m
        · obtain ⟨b, o, rA, rc, rfl, hbl, l0, hrc, hri⟩ := HL.out k hltk
          have HL0 := Lib.hid (cell_below_of (w := W) HBW.out l0)
          have HRI := Lib.hid (hri.later HBW.out)
          have hk0 : (0 : Int) ≤ (k : Int) := by omega
          have hkn : (k : Int) < (m : Int) := by omega
          have hln := HLEN.out k hltk
          have l0' := HL0.out
          have a0 := cell_same (hbw.out.block _ (by omega)) HA.out.1
          have a1 := cell_same (hbw.out.block _ (by omega)) HA.out.2.1
          have a2 := cell_same (hbw.out.block _ (by omega)) HA.out.2.2
          have HLT := Lib.hid hltk
          clear l0 hri hltk
          go_wp2_with fail
          refine region_qbw (by kernel_rfl) (by kernel_rfl) ?_
          have x0 := cell_regrown a0
          have x1 := cell_regrown a1
          have x2 := cell_regrown a2
          have x3 := cell_regrown l0'
          clear a0 a1 a2 l0'
          repeat (first | go_big_quiet_step ((go_at_call 89; exact Calls.regrown_of (rLot_any st B pA gA pc gc rA (L k).1 rc (L k).2 _ (HS.out.later ((HBW.out.trans ((below_regrown _ _ _).mono hsW)).mono hB)) (HRI.out.later (below_regrown _ _ _)) hln))) | quiet_step ((go_at_call 89; exact Calls.regrown_of (rLot_any st B pA gA pc gc rA (L k).1 rc (L k).2 _ (HS.out.later ((HBW.out.trans ((below_regrown _ _ _).mono hsW)).mono hB)) (HRI.out.later (below_regrown _ _ _)) hln))))
          refine wpQuiet_nil ?_; intro wq hbq
          clear x0 x1 x2 x3
          rw [HASK.out]
          have HBWQ := Lib.hid (HBW.out.trans (hbq.mono hsW))
          have hbwq := Lib.hid (hbw.out.trans (hbq.mono hsw))
          have hsq := HBWQ.out.size
          have HRIQ := Lib.hid (HRI.out.later hbq)
          have l0 := cell_below_of hbq HL0.out
          clear hbq
          by_cases he : st.lotErr (L k).1 (L k).2 = 0
          · have hne : (st.lotErr (L k).1 (L k).2 != 0) = false := by simpa using he
            have HK := Lib.hid (lot_ok he)
            have HE := Lib.hid he
            have hb2 := St.brings_bd HO.out (rng_in HO.out HK.out.2)
            have ews : IntKind.i64.wrap (sumN (fun j => st.brings (bagOf (L j).2 st.n)) k + st.brings (bagOf (L k).2 st.n)) = sumN (fun j => st.brings (bagOf (L j).2 st.n)) (k + 1) := IntWalk.i64_in _ (by omega)
            have hkk := HK.out.1
            rw [hkk] at l0 HRIQ
            have a0 := cell_same (hbwq.out.block _ (by omega)) HA.out.1
            have a1 := cell_same (hbwq.out.block _ (by omega)) HA.out.2.1
            have a2 := cell_same (hbwq.out.block _ (by omega)) HA.out.2.2
            clear he hkk hln bds
            go_upto_region 13 with fail
            refine region_qbw (by kernel_rfl) (by kernel_rfl) ?_
            have x0 := cell_regrown a0
            have x1 := cell_regrown a1
            have x2 := cell_regrown a2
            have x3 := cell_regrown l0
            clear a0 a1 a2 l0
            repeat (first | go_big_quiet_step ((go_at_call 119; exact Calls.regrown_of (rbrings_any st HO.out B pA gA pc gc rA rc (L k).2 _ (HS.out.later ((HBWQ.out.trans ((below_regrown _ _ _).mono hsq)).mono hB)) (HRIQ.out.later (below_regrown _ _ _)) HK.out.2))) | quiet_step ((go_at_call 119; exact Calls.regrown_of (rbrings_any st HO.out B pA gA pc gc rA rc (L k).2 _ (HS.out.later ((HBWQ.out.trans ((below_regrown _ _ _).mono hsq)).mono hB)) (HRIQ.out.later (below_regrown _ _ _)) HK.out.2))))
            refine wpQuiet_nil ?_; intro wt hbt
            clear x0 x1 x2 x3
            have hbwt := Lib.hid (hbwq.out.trans (hbt.mono hbwq.out.size))
            clear hbt
            go_wp2_with fail
            go_roundw
            case rel => exact ⟨k + 1, HLT.out, by go_num, rfl, Lib.hid (fun j hj => by rcases Nat.lt_or_ge j k with h | h; exact hall.out j h; rw [show j = k from by omega]; exact HE.out), hbwt⟩
            case measure => have := HLT.out; simp [intOf]; omega
          · have hne : (st.lotErr (L k).1 (L k).2 != 0) = true := by simpa using he
            have HR : Hid (st.earnsR m L = (0, st.lotErr (L k).1 (L k).2)) := Lib.hid (by
              have e1 : firstErr (fun j => st.lotErr (L j).1 (L j).2) m = st.lotErr (L k).1 (L k).2 := firstErr_at hall.out he m HLT.out
              have e2 : st.earnsErr m L = st.lotErr (L k).1 (L k).2 := by rw [HE1.out, if_pos (by rw [e1]; exact he), e1]
              unfold St.earnsR
              rw [e2, if_pos he])
            clear he l0
            go_wp2_with fail
            go_ret2
            exact ⟨by rw [HR.out]; rfl, HBWQ.out⟩
        · have hk' : k = m := by omega
          have hge : ¬ (k : Int) < (m : Int) := by omega
          have HOUT : Hid (sumN (fun j => st.brings (bagOf (L j).2 st.n)) k = sumN (fun j => st.brings (bagOf (L j).2 st.n)) m) := Lib.hid (by rw [hk'])
          have HALL : Hid (∀ j, j < m → st.lotErr (L j).1 (L j).2 = 0) := Lib.hid (by rw [← hk']; exact hall.out)
          have HE2 : Hid (st.earnsErr m L = if allN (fun p => decide (planSum m L p ≤ (st.P p).s)) st.n = false then 8 else 0) := Lib.hid (by rw [HE1.out, firstErr_zero HALL.out, if_neg (by simp)])
          rw [HOUT.out]
          obtain ⟨tot, htot⟩ : ∃ tot, tot = sumN (fun j => st.brings (bagOf (L j).2 st.n)) m := ⟨_, rfl⟩
          have HTOT := Lib.hid htot
          rw [← htot]
          clear hk' htot bds
          go_wp2_with fail
          go_loopw [10] (fun i wz => ∃ p : Nat, p ≤ st.n ∧ i = .int .i64 p ∧ Hid (∀ q, q < p → planSum m L q ≤ (st.P q).s) ∧ Hid (Below w1.heap.size w1 wz)) (fun i _ => st.n - (intOf i).toNat)
          case atStart => exact ⟨0, by omega, rfl, Lib.hid (fun j hj => absurd hj (by omega)), hbw⟩
          case round =>
            rename_i wr0
            clear hsw HBW hsW hbw
            obtain ⟨p, hp, rfl, hallp, hbw⟩ := hrel
            have hsw := hbw.out.size
            have HBW := Lib.hid (HB1.out.trans (hbw.out.mono hs1'))
            have hsW := HBW.out.size
            have a0 := cell_same (hbw.out.block _ (by omega)) HA.out.1
            by_cases hltp : p < st.n
            · have hp0 : (0 : Int) ≤ (p : Int) := by omega
              have hpn : (p : Int) < (st.n : Int) := by omega
              have HBD : Hid (∀ j, j < m → 0 ≤ (L j).2 p ∧ (L j).2 p ≤ 6) := Lib.hid (fun j hj => by
                have h1 := (lot_ok (HALL.out j hj)).2 p hltp
                have h2 := (HO.out.pk p hltp).1
                omega)
              obtain ⟨wo, rfl⟩ : ∃ wo, wo = wr := ⟨_, rfl⟩
              go_wp2_with fail
              go_loopw [11, 12] (fun v i wy => ∃ k : Nat, k ≤ m ∧ i = .int .i64 k ∧ v = .int .i64 (sumN (fun j => (L j).2 p) k) ∧ wy = wo) (fun _ i _ => m - (intOf i).toNat)
              case atStart => exact ⟨0, by omega, rfl, rfl, rfl⟩
              case round =>
                obtain ⟨k2, hk2, rfl, rfl, rfl⟩ := hrel
                by_cases hlt2 : k2 < m
                · obtain ⟨b, o, rA, rc, rfl, hbl, l0, hrc, hri⟩ := HL.out k2 hlt2
                  have hln := (lot_ok (HALL.out k2 hlt2)).1
                  rw [hln] at l0 hri hrc
                  obtain ⟨rb, ro, rfl, hrb, r0⟩ := hri p hltp
                  have l0 := cell_below_of (w := W) HBW.out l0
                  have r0 := cell_below_of (w := W) HBW.out r0
                  have hk0 : (0 : Int) ≤ (k2 : Int) := by omega
                  have hkn : (k2 : Int) < (m : Int) := by omega
                  have bd := sumN_bd2 (fun j => (L j).2 p) k2 6 (fun j hj => HBD.out j (by omega))
                  have bx := HBD.out k2 hlt2
                  have ew : IntKind.i64.wrap (sumN (fun j => (L j).2 p) k2 + (L k2).2 p) = sumN (fun j => (L j).2 p) (k2 + 1) := IntWalk.i64_in _ (by omega)
                  clear hri hln
                  go_wp2_with fail
                  go_roundw
                  case rel => exact ⟨k2 + 1, by omega, by go_num, rfl, trivial⟩
                  case measure => simp [intOf]; omega
                · have hk2' : k2 = m := by omega
                  have hge2 : ¬ (k2 : Int) < (m : Int) := by omega
                  obtain ⟨b, o, rfl, hbl, c0, _⟩ := (HS.out.p.below (HBW.out.mono hB)) p hltp
                  have HPS : Hid (sumN (fun j => (L j).2 p) k2 = planSum m L p) := Lib.hid (by rw [hk2']; rfl)
                  rw [HPS.out]
                  clear hk2'
                  by_cases hgt : (st.P p).s < planSum m L p
                  · have HR : Hid (st.earnsR m L = (0, 8)) := Lib.hid (by
                      unfold St.earnsR
                      rw [HE2.out, if_pos (allN_false (k := p) hltp (by simp; omega))]
                      rfl)
                    go_wp2_with fail
                    go_ret2
                    exact ⟨by rw [HR.out]; rfl, HBW.out⟩
                  · go_wp2_with fail
                    go_roundw
                    case rel => exact ⟨p + 1, by omega, by go_num, Lib.hid (fun j hj => by rcases Nat.lt_or_ge j p with h | h; exact hallp.out j h; rw [show j = p from by omega]; omega), hbw⟩
                    case measure => simp [intOf]; omega
            · have hp' : p = st.n := by omega
              have hgep : ¬ (p : Int) < (st.n : Int) := by omega
              have HR : Hid (st.earnsR m L = (tot, 0)) := Lib.hid (by
                unfold St.earnsR
                rw [HE2.out, allN_iff.2 (fun q hq => by simpa using hallp.out q (by omega)), HTOT.out]
                rfl)
              clear hp'
              go_wp2_with fail
              go_ret2
              exact ⟨by rw [HR.out]; rfl, HBW.out⟩
  · have hnb : (st.check != 0) = true := by simpa using h0
    have HR : Hid (st.earnsR m L = (0, st.check)) := Lib.hid (by
      have : st.earnsErr m L = st.check := by unfold St.earnsErr; rw [if_pos h0]
      unfold St.earnsR; rw [this, if_pos h0])
    clear h0
    go_wp2_with fail
    go_ret2
    exact ⟨by rw [HR.out]; rfl, HB1.out⟩
end Go.Proofs.Ytegmomappbehcaa
