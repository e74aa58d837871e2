/- Earns of package lot. -/
import Derived.Test.YtegmomappbehcaaTp
import Derived.Test.YtegmomappbehcaaWy
set_option linter.unusedSimpArgs false
set_option linter.unusedVariables false
namespace Go.Proofs.Ytegmomappbehcaa
open Go.RowKit Go.Shelf

theorem BagAt.put4 {w : World} {b : Nat} {y : Bag} (h : BagAt w b y) (x : Bag) : BagAt ((((w.setCell ⟨b, 0, none⟩ (.int .i64 x.a)).setCell ⟨b, 1, none⟩ (.int .i64 x.b)).setCell ⟨b, 2, none⟩ (.int .i64 x.c)).setCell ⟨b, 3, none⟩ (.int .i64 x.d)) b x := by
  obtain ⟨⟨h0, h1, h2, h3⟩, f0, f1, f2, f3⟩ := h
  exact ⟨⟨by simp [go_sem, h0], by simp [go_sem, h1], by simp [go_sem, h2], by simp [go_sem, h3]⟩, fro_set_of _ (fro_set_of _ (fro_set_of _ (fro_set_of _ f0))), fro_set_of _ (fro_set_of _ (fro_set_of _ (fro_set_of _ f1))), fro_set_of _ (fro_set_of _ (fro_set_of _ (fro_set_of _ f2))), fro_set_of _ (fro_set_of _ (fro_set_of _ (fro_set_of _ f3)))⟩
/-- what is left behind k lots of a plan -/
def St.leftB (st : St) (L : Nat → Nat × (Nat → Int)) : Nat → Bag
  | 0 => st.all
  | k + 1 => (st.leftB L k).less (bagOf (L k).2 st.n)
theorem Bag.less_at4 (x y : Bag) : ∀ k, k < 4 → (x.less y).at k = x.at k - y.at k
  | 0, _ => rfl
  | 1, _ => rfl
  | 2, _ => rfl
  | 3, _ => rfl
  | n + 4, h => absurd h (by omega)
theorem bagOf_out {X : Nat → Int} {n k : Nat} (hk : n ≤ k) : (bagOf X n).at k = 0 := by
  match k, hk with
  | 0, hk => simp [bagOf, Bag.at, bagK]; omega
  | 1, hk => simp [bagOf, Bag.at, bagK]; omega
  | 2, hk => simp [bagOf, Bag.at, bagK]; omega
  | 3, hk => simp [bagOf, Bag.at, bagK]; omega
  | k + 4, hk => rfl
theorem St.leftB_at {st : St} (h4 : st.n ≤ 4) (L : Nat → Nat × (Nat → Int)) : ∀ (k : Nat) (p : Nat), p < st.n → (st.leftB L k).at p = (st.P p).s - planSum k L p
  | 0, p, hp => by
    show st.all.at p = _
    rw [st.all_at p (by omega), if_pos hp]
    simp [planSum, sumN]
  | k + 1, p, hp => by
    show (Bag.less _ _).at p = _
    rw [Bag.less_at4 _ _ p (by omega), St.leftB_at h4 L k p hp, bagOf_at hp (by omega)]
    show _ = _ - (planSum k L p + (L k).2 p)
    omega
theorem St.leftB_out {st : St} (L : Nat → Nat × (Nat → Int)) : ∀ (k : Nat) (p : Nat), st.n ≤ p → p < 4 → (st.leftB L k).at p = 0
  | 0, p, hp, h4 => by
    show st.all.at p = _
    rw [st.all_at p h4, if_neg (by omega)]
  | k + 1, p, hp, h4 => by
    show (Bag.less _ _).at p = _
    rw [Bag.less_at4 _ _ p h4, St.leftB_out L k p hp h4, bagOf_out hp]
    rfl
theorem St.leftB_bd {st : St} (hst : st.ok) {L : Nat → Nat × (Nat → Int)} : ∀ (k : Nat), (∀ j, j < k → st.lotErr (L j).1 (L j).2 = 0) → ∀ p, p < 4 → -6 * (k : Int) ≤ (st.leftB L k).at p ∧ (st.leftB L k).at p ≤ 6
  | 0, _, p, hp => by
    have := St.all_bd hst p
    show -6 * ((0 : Nat) : Int) ≤ st.all.at p ∧ st.all.at p ≤ 6
    omega
  | k + 1, h, p, hp => by
    have h1 := St.leftB_bd hst k (fun j hj => h j (by omega)) p hp
    obtain ⟨h2, h3⟩ := lot_ok (h k (by omega))
    show -6 * ((k + 1 : Nat) : Int) ≤ ((st.leftB L k).less (bagOf (L k).2 st.n)).at p ∧ ((st.leftB L k).less (bagOf (L k).2 st.n)).at p ≤ 6
    rw [Bag.less_at4 _ _ p hp]
    by_cases hpn : p < st.n
    · have h4 := h3 p hpn
      have h5 := (hst.pk p hpn).1
      rw [bagOf_at hpn hp]
      omega
    · rw [bagOf_out (by omega)]
      omega
/-- no picking is used up twice -/
theorem St.left_all {st : St} (hst : st.ok) (L : Nat → Nat × (Nat → Int)) (m : Nat) : allN (fun k => decide (0 ≤ (st.leftB L m).at k)) 4 = allN (fun p => decide (planSum m L p ≤ (st.P p).s)) st.n := by
  have n4 := hst.n4
  rw [Bool.eq_iff_iff, allN_iff, allN_iff]
  refine ⟨fun h p hp => ?_, fun h p hp => ?_⟩
  · have h1 := h p (by omega)
    rw [St.leftB_at n4 L m p hp] at h1
    simp only [decide_eq_true_eq] at h1 ⊢
    omega
  · by_cases hpn : p < st.n
    · have h1 := h p hpn
      rw [St.leftB_at n4 L m p hpn]
      simp only [decide_eq_true_eq] at h1 ⊢
      omega
    · rw [St.leftB_out L m p (by omega) hp]
      rfl
theorem earns1 (x : Int) (w : World) : Calls Try.prog 118 #[.int .i64 x] w fun e w' => e = .returned (.bool (decide (0 ≤ x))) ∧ Below w.heap.size w w' := by
  go_enter Try.func118, Try.ntmps118
  go_wp2_with fail
  go_ret
  exact ⟨rfl, Below.refl _ _⟩

set_option maxRecDepth 100000 in
set_option maxHeartbeats 4000000 in
theorem Earns_any (st : St) (B : Nat) (pA gA : Option Addr) (pc gc : Nat) (A : Option Addr) (m c : Nat) (L : Nat → Nat × (Nat → Int)) (W : World) (hs : StRow W B st pA pc gA gc) (hl : PlanRow W W.heap.size A m L) (hm : m ≤ 1000) (hlen : ∀ k, k < m → (L k).1 ≤ 1000) :
    Calls Try.prog 61 #[stV pA st.n pc gA st.m gc st.lots, .slice A m c] W fun e W' => e = .returned (nuV (st.earnsR m L)) ∧ Below W.heap.size W W' := by
  have HS := Lib.hid hs
  have hB := hs.lt
  have HL := Lib.hid hl
  have HLEN := Lib.hid hlen
  clear hs hl hlen
  go_enter Try.func61, Try.ntmps61
  go_wp2_with fail
  refine (opened_st st B pA gA pc gc _ (HS.out.later (by repeat (first | (with_reducible exact Below.refl _ _) | (with_reducible refine Below.drew ?_) | (with_reducible refine below_drewN ?_ _) | ((with_reducible refine below_alloc ?_ ?_ _); · (first | exact Nat.le_refl _ | omega | (simp; done) | (simp; omega) | (simp at *; omega))) | ((with_reducible refine below_set ?_ ?_ _); · (first | exact Nat.le_refl _ | omega | (simp; done) | (simp; omega) | (simp at *; omega))) | ((with_reducible refine below_via (by with_reducible assumption) ?_ ?_); · (first | exact Nat.le_refl _ | omega | (simp; done) | (simp; omega) | (simp at *; omega))))))).mono ?_
  rintro e w1 ⟨hb1, ⟨hok, db, rfl, hD, hdb⟩ | ⟨hne, rfl⟩⟩
  · have HO := Lib.hid hok
    have HD := Lib.hid hD
    have HB1 := Lib.hid (show Below W.heap.size W w1 from (by repeat (first | (with_reducible exact Below.refl _ _) | (with_reducible refine Below.drew ?_) | (with_reducible refine below_drewN ?_ _) | ((with_reducible refine below_alloc ?_ ?_ _); · (first | exact Nat.le_refl _ | omega | (simp; done) | (simp; omega) | (simp at *; omega))) | ((with_reducible refine below_set ?_ ?_ _); · (first | exact Nat.le_refl _ | omega | (simp; done) | (simp; omega) | (simp at *; omega))) | ((with_reducible refine below_via (by with_reducible assumption) ?_ ?_); · (first | exact Nat.le_refl _ | omega | (simp; done) | (simp; omega) | (simp at *; omega))))))
    have hs1 := hb1.size
    simp only [World.size_alloc] at hs1 hdb
    have hc0 : Hid (st.check = 0) := Lib.hid (St.check_ok.2 hok)
    have s2 : w1.cell? ⟨W.heap.size, 2, none⟩ = some (.int .i64 st.lots) := cell_below_of hb1 (by (repeat' refine And.intro ?_ ?_) <;> (repeat (first | (with_reducible assumption) | (simp; done) | (with_reducible refine cell_drew_of ?_) | (with_reducible refine cell_drewN_of ?_) | (with_reducible refine cell_below_of (by with_reducible assumption) ?_) | ((with_reducible refine cell_new_of ?_ ?_) <;> (first | (with_reducible rfl) | (simp; done))) | ((with_reducible refine fro_new_of ?_) <;> (first | (with_reducible rfl) | (simp; done))) | (with_reducible refine cell_alloc_of _ ?_) | (with_reducible refine cell_set_of _ (by (first | exact Nat.le_refl _ | omega | (simp; done) | (simp; omega))) ?_) | (with_reducible refine fro_drew_of ?_) | (with_reducible refine fro_drewN_of ?_) | (with_reducible refine fro_below_of (by with_reducible assumption) (by (first | exact Nat.le_refl _ | omega | (simp; done) | (simp; omega))) ?_) | (with_reducible refine fro_alloc_of _ (by (first | exact Nat.le_refl _ | omega | (simp; done) | (simp; omega))) ?_) | (with_reducible refine fro_set_of _ ?_))))
    have hl0 := hok.l0
    have hl3 := hok.l3
    clear hb1 hok hD
    by_cases hml : st.lots < (m : Int)
    · have HR : Hid (st.earnsR m L = (0, 3)) := Lib.hid (by
        have e : st.earnsErr m L = 3 := by unfold St.earnsErr; rw [if_neg (by simp [hc0.out]), if_pos hml]
        unfold St.earnsR; rw [e]; rfl)
      go_wp2_with fail
      go_ret2
      exact ⟨by rw [HR.out]; rfl, HB1.out⟩
    · have HE0 : Hid (st.earnsErr m L = if firstErr (fun j => st.lotErr (L j).1 (L j).2) m ≠ 0 then firstErr (fun j => st.lotErr (L j).1 (L j).2) m
          else if allN (fun p => decide (planSum m L p ≤ (st.P p).s)) st.n = false then 8 else 0) := Lib.hid (by unfold St.earnsErr; rw [if_neg (by simp [hc0.out]), if_neg hml])
      have hd0 := HD.out.c0
      have hd1 := HD.out.c1
      have hd2 := HD.out.c2
      have hd3 := HD.out.c3
      go_upto_region 6 with fail
      go_region_held3 (fun w' => w'.cell? ⟨db, 3, none⟩ = some (.int .i64 st.all.a) ∧ w'.cell? ⟨db, 4, none⟩ = some (.int .i64 st.all.b) ∧ w'.cell? ⟨db, 5, none⟩ = some (.int .i64 st.all.c) ∧ w'.cell? ⟨db, 6, none⟩ = some (.int .i64 st.all.d)) ((go_split_ands; (repeat' refine And.intro ?_ ?_) <;> (repeat (first | (with_reducible assumption) | (simp; done) | (with_reducible refine cell_drew_of ?_) | (with_reducible refine cell_drewN_of ?_) | (with_reducible refine cell_below_of (by with_reducible assumption) ?_) | ((with_reducible refine cell_new_of ?_ ?_) <;> (first | (with_reducible rfl) | (simp; done))) | ((with_reducible refine fro_new_of ?_) <;> (first | (with_reducible rfl) | (simp; done))) | (with_reducible refine cell_alloc_of _ ?_) | (with_reducible refine cell_set_of _ (by (first | exact Nat.le_refl _ | omega | (simp; done) | (simp; omega))) ?_) | (with_reducible refine fro_drew_of ?_) | (with_reducible refine fro_drewN_of ?_) | (with_reducible refine fro_below_of (by with_reducible assumption) (by (first | exact Nat.le_refl _ | omega | (simp; done) | (simp; omega))) ?_) | (with_reducible refine fro_alloc_of _ (by (first | exact Nat.le_refl _ | omega | (simp; done) | (simp; omega))) ?_) | (with_reducible refine fro_set_of _ ?_))))) (fail)
      clear hd0 hd1 hd2 hd3 s2
      have hm3 : m ≤ 3 := by omega
      have HB2 := Lib.hid (HB1.out.trans ((show Below w1.heap.size w1 ((w1.alloc (.cells #[.int .i64 st.all.a, .int .i64 st.all.b, .int .i64 st.all.c, .int .i64 st.all.d] 123)).drew) from (by repeat (first | (with_reducible exact Below.refl _ _) | (with_reducible refine Below.drew ?_) | (with_reducible refine below_drewN ?_ _) | ((with_reducible refine below_alloc ?_ ?_ _); · (first | exact Nat.le_refl _ | omega | (simp; done) | (simp; omega) | (simp at *; omega))) | ((with_reducible refine below_set ?_ ?_ _); · (first | exact Nat.le_refl _ | omega | (simp; done) | (simp; omega) | (simp at *; omega))) | ((with_reducible refine below_via (by with_reducible assumption) ?_ ?_); · (first | exact Nat.le_refl _ | omega | (simp; done) | (simp; omega) | (simp at *; omega)))))).mono (by omega)))
      have HLB : Hid (BagAt ((w1.alloc (.cells #[.int .i64 st.all.a, .int .i64 st.all.b, .int .i64 st.all.c, .int .i64 st.all.d] 123)).drew) w1.heap.size (st.leftB L 0)) := Lib.hid (show BagAt _ _ st.all from (by (repeat' refine And.intro ?_ ?_) <;> (repeat (first | (with_reducible assumption) | (simp; done) | (with_reducible refine cell_drew_of ?_) | (with_reducible refine cell_drewN_of ?_) | (with_reducible refine cell_below_of (by with_reducible assumption) ?_) | ((with_reducible refine cell_new_of ?_ ?_) <;> (first | (with_reducible rfl) | (simp; done))) | ((with_reducible refine fro_new_of ?_) <;> (first | (with_reducible rfl) | (simp; done))) | (with_reducible refine cell_alloc_of _ ?_) | (with_reducible refine cell_set_of _ (by (first | exact Nat.le_refl _ | omega | (simp; done) | (simp; omega))) ?_) | (with_reducible refine fro_drew_of ?_) | (with_reducible refine fro_drewN_of ?_) | (with_reducible refine fro_below_of (by with_reducible assumption) (by (first | exact Nat.le_refl _ | omega | (simp; done) | (simp; omega))) ?_) | (with_reducible refine fro_alloc_of _ (by (first | exact Nat.le_refl _ | omega | (simp; done) | (simp; omega))) ?_) | (with_reducible refine fro_set_of _ ?_)))))
      go_wp2_with fail
      go_loopw [8, 35] (fun v i wr => ∃ k : Nat, k ≤ m ∧ i = .int .i64 k ∧ v = .int .i64 (sumN (fun j => st.brings (bagOf (L j).2 st.n)) k) ∧ Hid (∀ j, j < k → st.lotErr (L j).1 (L j).2 = 0) ∧ Hid (BagAt wr w1.heap.size (st.leftB L k)) ∧ Hid (Below w1.heap.size w1 wr)) (fun _ i _ => m - (intOf i).toNat)
      case atStart => exact ⟨0, Nat.zero_le _, rfl, rfl, Lib.hid (fun j hj => absurd hj (by omega)), HLB, Lib.hid (by repeat (first | (with_reducible exact Below.refl _ _) | (with_reducible refine Below.drew ?_) | (with_reducible refine below_drewN ?_ _) | ((with_reducible refine below_alloc ?_ ?_ _); · (first | exact Nat.le_refl _ | omega | (simp; done) | (simp; omega) | (simp at *; omega))) | ((with_reducible refine below_set ?_ ?_ _); · (first | exact Nat.le_refl _ | omega | (simp; done) | (simp; omega) | (simp at *; omega))) | ((with_reducible refine below_via (by with_reducible assumption) ?_ ?_); · (first | exact Nat.le_refl _ | omega | (simp; done) | (simp; omega) | (simp at *; omega)))))⟩
      case round =>
        obtain ⟨k, hk, rfl, rfl, herr, hbag, hbw⟩ := hrel
        have hsw := hbag.out.lt
        have HBW := Lib.hid (HB1.out.trans (hbw.out.mono (by omega)))
        have HZ : Hid (0 ≤ sumN (fun j => st.brings (bagOf (L j).2 st.n)) k ∧ sumN (fun j => st.brings (bagOf (L j).2 st.n)) k ≤ 2400 * (k : Int)) := Lib.hid (sumN_bd2 _ k 2400 (fun j hj => by
          have h1 := herr.out j hj
          obtain ⟨h2, _⟩ := lot_ok h1
          rw [h2] at h1
          exact St.brings_bd HO.out (bagOf_in h1)))
        by_cases hlt : k < m
        · obtain ⟨b, o, rA, rc, rfl, hbl, c0, hrc, hri⟩ := (HL.out.later HBW.out) k hlt
          have hk0 : (0 : Int) ≤ (k : Int) := by omega
          have hkn : (k : Int) < (m : Int) := by omega
          have HD3 := Lib.hid (HD.out.keep (w' := wr) hbw.out.size (fun i hi => hbw.out.block i (by have := HD.out.lt; omega)))
          have HRI := Lib.hid hri
          have hll := HLEN.out k hlt
          clear hri
          go_wp2_with fail
          refine (bag_any st HO.out db rA (L k).1 rc (L k).2 _ (HD3.out.at (by omega)) HRI.out hll).mono ?_
          rintro e w5 ⟨rfl, hb⟩
          have HG5 := Lib.hid (hbag.out.later hb)
          have HD5 := Lib.hid (HD3.out.later (by omega) hb)
          have HW5 := Lib.hid (hbw.out.trans (hb.mono (by omega)))
          have hs5 := hb.size
          clear hb c0
          by_cases he : st.lotErr (L k).1 (L k).2 = 0
          · have heb : (st.lotErr (L k).1 (L k).2 != 0) = false := by simpa using he
            have HE := Lib.hid he
            have hln := (lot_ok he).1
            have HXI : Hid ((bagOf (L k).2 st.n).in_ st.all) := Lib.hid (by have h := he; rw [hln] at h; exact bagOf_in h)
            rw [St.lotBag_ok he, hln]
            rw [hln] at heb
            have HSU : Hid (sumN (fun j => st.brings (bagOf (L j).2 st.n)) (k + 1) = sumN (fun j => st.brings (bagOf (L j).2 st.n)) k + st.brings (bagOf (L k).2 st.n)) := Lib.hid rfl
            have HLS : Hid (st.leftB L (k + 1) = (st.leftB L k).less (bagOf (L k).2 st.n)) := Lib.hid rfl
            have HYB := Lib.hid (St.leftB_bd HO.out k herr.out)
            have hxb := St.in_six HO.out HXI.out
            have hbb := St.brings_bd HO.out HXI.out
            have hzb := HZ.out
            have HX1 : Hid (∀ p, p < 4 → -1000 ≤ (st.leftB L k).at p ∧ (st.leftB L k).at p ≤ 1000) := Lib.hid (fun p hp => by have := HYB.out p hp; omega)
            have HX2 : Hid (∀ p, p < 4 → -1000 ≤ (bagOf (L k).2 st.n).at p ∧ (bagOf (L k).2 st.n).at p ≤ 1000) := Lib.hid (fun p _ => by have h1 := Bag.in_at HXI.out p; have h2 := St.all_bd HO.out p; omega)
            clear he hln hxb
            generalize bagOf (L k).2 st.n = x at HXI HSU HLS HX2 hbb ⊢
            generalize sumN (fun j => st.brings (bagOf (L j).2 st.n)) k = z at HSU HZ hzb ⊢
            generalize st.leftB L k = y at HLS HX1 hbag HG5 HYB ⊢
            go_upto_region 13 with fail
            have hba : Below w5.heap.size w5 (w5.alloc (.cells #[.int .i64 x.a, .int .i64 x.b, .int .i64 x.c, .int .i64 x.d] 123)) := (by repeat (first | (with_reducible exact Below.refl _ _) | (with_reducible refine Below.drew ?_) | (with_reducible refine below_drewN ?_ _) | ((with_reducible refine below_alloc ?_ ?_ _); · (first | exact Nat.le_refl _ | omega | (simp; done) | (simp; omega) | (simp at *; omega))) | ((with_reducible refine below_set ?_ ?_ _); · (first | exact Nat.le_refl _ | omega | (simp; done) | (simp; omega) | (simp at *; omega))) | ((with_reducible refine below_via (by with_reducible assumption) ?_ ?_); · (first | exact Nat.le_refl _ | omega | (simp; done) | (simp; omega) | (simp at *; omega)))))
            refine wp_world (fun W5 => BagAt W5 w5.heap.size x ∧ BagAt W5 w1.heap.size y ∧ DeskOf W5 B db st ∧ Below w1.heap.size w1 W5 ∧ w5.heap.size < W5.heap.size) ⟨(by (repeat' refine And.intro ?_ ?_) <;> (repeat (first | (with_reducible assumption) | (simp; done) | (with_reducible refine cell_drew_of ?_) | (with_reducible refine cell_drewN_of ?_) | (with_reducible refine cell_below_of (by with_reducible assumption) ?_) | ((with_reducible refine cell_new_of ?_ ?_) <;> (first | (with_reducible rfl) | (simp; done))) | ((with_reducible refine fro_new_of ?_) <;> (first | (with_reducible rfl) | (simp; done))) | (with_reducible refine cell_alloc_of _ ?_) | (with_reducible refine cell_set_of _ (by (first | exact Nat.le_refl _ | omega | (simp; done) | (simp; omega))) ?_) | (with_reducible refine fro_drew_of ?_) | (with_reducible refine fro_drewN_of ?_) | (with_reducible refine fro_below_of (by with_reducible assumption) (by (first | exact Nat.le_refl _ | omega | (simp; done) | (simp; omega))) ?_) | (with_reducible refine fro_alloc_of _ (by (first | exact Nat.le_refl _ | omega | (simp; done) | (simp; omega))) ?_) | (with_reducible refine fro_set_of _ ?_)))), HG5.out.later hba, HD5.out.later (by omega) hba, HW5.out.trans (hba.mono (by omega)), by simp⟩ ?_
            clear hba HG5 HD5 HW5
            rintro W5 ⟨hx5, hy5, hd5, hb5, hsW5⟩
            have HX5 := Lib.hid hx5
            have HY5 := Lib.hid hy5
            have HD5 := Lib.hid hd5
            have HW5 := Lib.hid hb5
            have e1 : IntKind.i64.wrap (z + st.brings x) = z + st.brings x := IntWalk.i64_in _ (by omega)
            obtain ⟨⟨x0, x1, x2, x3⟩, _⟩ := hx5
            obtain ⟨⟨y0, y1, y2, y3⟩, g0, g1, g2, g3⟩ := hy5
            clear hd5 hb5
            go_region_with (first | (go_at_call 115; refine (brings_any st HO.out x db _ ((HD5.out.later (by omega) (show Below W5.heap.size W5 _ from (by repeat (first | (with_reducible exact Below.refl _ _) | (with_reducible refine Below.drew ?_) | (with_reducible refine below_drewN ?_ _) | ((with_reducible refine below_alloc ?_ ?_ _); · (first | exact Nat.le_refl _ | omega | (simp; done) | (simp; omega) | (simp at *; omega))) | ((with_reducible refine below_set ?_ ?_ _); · (first | exact Nat.le_refl _ | omega | (simp; done) | (simp; omega) | (simp at *; omega))) | ((with_reducible refine below_via (by with_reducible assumption) ?_ ?_); · (first | exact Nat.le_refl _ | omega | (simp; done) | (simp; omega) | (simp at *; omega))))))).at (by (first | exact Nat.le_refl _ | omega | (simp; done) | (simp; omega)))) HXI.out).mono ?_; rintro e wa ⟨rfl, hba⟩; obtain ⟨hca, hfa⟩ := bcell hba; have hza := hba.size; (try simp only [World.size_drew, World.heap_drewN, World.size_alloc] at hza); clear hca hfa; (try (refine lay_in (A := (((wa.cell? ⟨w1.heap.size, 0, none⟩ = some (.int .i64 y.a) ∧ wa.cell? ⟨w1.heap.size, 1, none⟩ = some (.int .i64 y.b) ∧ wa.cell? ⟨w1.heap.size, 2, none⟩ = some (.int .i64 y.c) ∧ wa.cell? ⟨w1.heap.size, 3, none⟩ = some (.int .i64 y.d))) ∧ wa.frozen? ⟨w1.heap.size, 0, none⟩ = false ∧ wa.frozen? ⟨w1.heap.size, 1, none⟩ = false ∧ wa.frozen? ⟨w1.heap.size, 2, none⟩ = false ∧ wa.frozen? ⟨w1.heap.size, 3, none⟩ = false) ∧ (wa.cell? ⟨w5.heap.size, 0, none⟩ = some (.int .i64 x.a) ∧ wa.cell? ⟨w5.heap.size, 1, none⟩ = some (.int .i64 x.b) ∧ wa.cell? ⟨w5.heap.size, 2, none⟩ = some (.int .i64 x.c) ∧ wa.cell? ⟨w5.heap.size, 3, none⟩ = some (.int .i64 x.d))) ?_ ?_; (· ((go_split_ands; (repeat' refine And.intro ?_ ?_) <;> (repeat (first | (with_reducible assumption) | (simp; done) | (with_reducible refine cell_drew_of ?_) | (with_reducible refine cell_drewN_of ?_) | (with_reducible refine cell_below_of (by with_reducible assumption) ?_) | ((with_reducible refine cell_new_of ?_ ?_) <;> (first | (with_reducible rfl) | (simp; done))) | ((with_reducible refine fro_new_of ?_) <;> (first | (with_reducible rfl) | (simp; done))) | (with_reducible refine cell_alloc_of _ ?_) | (with_reducible refine cell_set_of _ (by (first | exact Nat.le_refl _ | omega | (simp; done) | (simp; omega))) ?_) | (with_reducible refine fro_drew_of ?_) | (with_reducible refine fro_drewN_of ?_) | (with_reducible refine fro_below_of (by with_reducible assumption) (by (first | exact Nat.le_refl _ | omega | (simp; done) | (simp; omega))) ?_) | (with_reducible refine fro_alloc_of _ (by (first | exact Nat.le_refl _ | omega | (simp; done) | (simp; omega))) ?_) | (with_reducible refine fro_set_of _ ?_)))))); rintro ⟨⟨⟨_, _, _, _⟩, _, _, _, _⟩, _, _, _, _⟩))) | (go_at_call 114; refine (sum2n _ _ _ _ _ (by omega) (by omega)).mono ?_; rintro e ws ⟨rfl, rfl⟩) | (go_at_call 116; refine (less_any y x _ HX1.out HX2.out).mono ?_; rintro e wl ⟨rfl, hbl⟩; obtain ⟨hcl, hfl⟩ := bcell hbl; have hzl := hbl.size; (try simp only [World.size_drew, World.heap_drewN, World.size_alloc] at hzl); clear hcl hfl; (try (refine lay_in (A := (((wl.cell? ⟨w1.heap.size, 0, none⟩ = some (.int .i64 y.a) ∧ wl.cell? ⟨w1.heap.size, 1, none⟩ = some (.int .i64 y.b) ∧ wl.cell? ⟨w1.heap.size, 2, none⟩ = some (.int .i64 y.c) ∧ wl.cell? ⟨w1.heap.size, 3, none⟩ = some (.int .i64 y.d))) ∧ wl.frozen? ⟨w1.heap.size, 0, none⟩ = false ∧ wl.frozen? ⟨w1.heap.size, 1, none⟩ = false ∧ wl.frozen? ⟨w1.heap.size, 2, none⟩ = false ∧ wl.frozen? ⟨w1.heap.size, 3, none⟩ = false) ∧ (wl.cell? ⟨w5.heap.size, 0, none⟩ = some (.int .i64 x.a) ∧ wl.cell? ⟨w5.heap.size, 1, none⟩ = some (.int .i64 x.b) ∧ wl.cell? ⟨w5.heap.size, 2, none⟩ = some (.int .i64 x.c) ∧ wl.cell? ⟨w5.heap.size, 3, none⟩ = some (.int .i64 x.d))) ?_ ?_; (· ((go_split_ands; (repeat' refine And.intro ?_ ?_) <;> (repeat (first | (with_reducible assumption) | (simp; done) | (with_reducible refine cell_drew_of ?_) | (with_reducible refine cell_drewN_of ?_) | (with_reducible refine cell_below_of (by with_reducible assumption) ?_) | ((with_reducible refine cell_new_of ?_ ?_) <;> (first | (with_reducible rfl) | (simp; done))) | ((with_reducible refine fro_new_of ?_) <;> (first | (with_reducible rfl) | (simp; done))) | (with_reducible refine cell_alloc_of _ ?_) | (with_reducible refine cell_set_of _ (by (first | exact Nat.le_refl _ | omega | (simp; done) | (simp; omega))) ?_) | (with_reducible refine fro_drew_of ?_) | (with_reducible refine fro_drewN_of ?_) | (with_reducible refine fro_below_of (by with_reducible assumption) (by (first | exact Nat.le_refl _ | omega | (simp; done) | (simp; omega))) ?_) | (with_reducible refine fro_alloc_of _ (by (first | exact Nat.le_refl _ | omega | (simp; done) | (simp; omega))) ?_) | (with_reducible refine fro_set_of _ ?_)))))); rintro ⟨⟨⟨_, _, _, _⟩, _, _, _, _⟩, _, _, _, _⟩))))
            all_goals
              have HBG : Hid (BagAt ((((wl.setCell ⟨w1.heap.size, 0, none⟩ (.int .i64 (y.less x).a)).setCell ⟨w1.heap.size, 1, none⟩ (.int .i64 (y.less x).b)).setCell ⟨w1.heap.size, 2, none⟩ (.int .i64 (y.less x).c)).setCell ⟨w1.heap.size, 3, none⟩ (.int .i64 (y.less x).d)) w1.heap.size (st.leftB L (k + 1))) := Lib.hid (by
                rw [HLS.out]
                exact BagAt.put4 (y := y) (by (repeat' refine And.intro ?_ ?_) <;> (repeat (first | (with_reducible assumption) | (simp; done) | (with_reducible refine cell_drew_of ?_) | (with_reducible refine cell_drewN_of ?_) | (with_reducible refine cell_below_of (by with_reducible assumption) ?_) | ((with_reducible refine cell_new_of ?_ ?_) <;> (first | (with_reducible rfl) | (simp; done))) | ((with_reducible refine fro_new_of ?_) <;> (first | (with_reducible rfl) | (simp; done))) | (with_reducible refine cell_alloc_of _ ?_) | (with_reducible refine cell_set_of _ (by (first | exact Nat.le_refl _ | omega | (simp; done) | (simp; omega))) ?_) | (with_reducible refine fro_drew_of ?_) | (with_reducible refine fro_drewN_of ?_) | (with_reducible refine fro_below_of (by with_reducible assumption) (by (first | exact Nat.le_refl _ | omega | (simp; done) | (simp; omega))) ?_) | (with_reducible refine fro_alloc_of _ (by (first | exact Nat.le_refl _ | omega | (simp; done) | (simp; omega))) ?_) | (with_reducible refine fro_set_of _ ?_)))) _)
              have HBE : Hid (Below w1.heap.size w1 ((((wl.setCell ⟨w1.heap.size, 0, none⟩ (.int .i64 (y.less x).a)).setCell ⟨w1.heap.size, 1, none⟩ (.int .i64 (y.less x).b)).setCell ⟨w1.heap.size, 2, none⟩ (.int .i64 (y.less x).c)).setCell ⟨w1.heap.size, 3, none⟩ (.int .i64 (y.less x).d))) := Lib.hid (by
                have h := HW5.out
                exact (by repeat (first | (with_reducible exact Below.refl _ _) | (with_reducible assumption) | (with_reducible refine Below.drew ?_) | ((with_reducible refine below_alloc ?_ ?_ _); (· (first | exact Nat.le_refl _ | omega | (dsimp only; omega) | (simp only [World.size_alloc, World.size_drew, World.heap_drewN]; omega) | (simp; omega)))) | ((with_reducible refine below_set ?_ ?_ _); (· (first | exact Nat.le_refl _ | omega | (dsimp only; omega) | (simp only [World.size_alloc, World.size_drew, World.heap_drewN]; omega) | (simp; omega)))) | ((with_reducible refine below_via (by with_reducible assumption) ?_ ?_); (· (first | exact Nat.le_refl _ | omega | (dsimp only; omega) | (simp only [World.size_alloc, World.size_drew, World.heap_drewN]; omega) | (simp; omega)))))))
              clear hba hbl x0 x1 x2 x3 y0 y1 y2 y3 g0 g1 g2 g3
              go_wp2_with fail
              go_roundw
              case rel => exact ⟨k + 1, by omega, by go_num, by rw [HSU.out], Lib.hid (fun j hj => by rcases Nat.lt_or_ge j k with h | h; exact herr.out j h; rw [show j = k from by omega]; exact HE.out), HBG, HBE⟩
              case measure => simp [intOf]; omega
          · have heb : (st.lotErr (L k).1 (L k).2 != 0) = true := by simpa using he
            have HR : Hid (st.earnsR m L = (0, st.lotErr (L k).1 (L k).2)) := Lib.hid (by
              have e1 : firstErr (fun j => st.lotErr (L j).1 (L j).2) m = st.lotErr (L k).1 (L k).2 := firstErr_at (k := k) herr.out he m hlt
              have e : st.earnsErr m L = st.lotErr (L k).1 (L k).2 := by rw [HE0.out, e1, if_pos he]
              unfold St.earnsR; rw [e, if_pos he])
            have HBE := Lib.hid (HB1.out.trans (HW5.out.mono (by omega)))
            clear he
            go_wp2_with fail
            go_ret2
            exact ⟨by rw [HR.out]; rfl, by have h := HBE.out; exact (by repeat (first | (with_reducible exact Below.refl _ _) | (with_reducible assumption) | (with_reducible refine Below.drew ?_) | ((with_reducible refine below_alloc ?_ ?_ _); (· (first | exact Nat.le_refl _ | omega | (dsimp only; omega) | (simp only [World.size_alloc, World.size_drew, World.heap_drewN]; omega) | (simp; omega)))) | ((with_reducible refine below_set ?_ ?_ _); (· (first | exact Nat.le_refl _ | omega | (dsimp only; omega) | (simp only [World.size_alloc, World.size_drew, World.heap_drewN]; omega) | (simp; omega)))) | ((with_reducible refine below_via (by with_reducible assumption) ?_ ?_); (· (first | exact Nat.le_refl _ | omega | (dsimp only; omega) | (simp only [World.size_alloc, World.size_drew, World.heap_drewN]; omega) | (simp; omega))))))⟩
        · obtain rfl : k = m := by omega
          have hge : ¬ (k : Int) < (k : Int) := by omega
          have HFE : Hid (firstErr (fun j => st.lotErr (L j).1 (L j).2) k = 0) := Lib.hid (firstErr_zero herr.out)
          have HIR : Hid (IntRow wr wr.heap.size (some ⟨w1.heap.size, 0, none⟩) 4 (st.leftB L k).at) := Lib.hid (fun p hp => ⟨w1.heap.size, 0, rfl, hsw, by rw [Nat.zero_add]; exact at4' hbag.out.1.1 hbag.out.1.2.1 hbag.out.1.2.2.1 hbag.out.1.2.2.2 p hp⟩)
          have HAL := Lib.hid (St.left_all HO.out L k)
          go_wp2_with fail
          refine (every_int (some ⟨w1.heap.size, 0, none⟩) 4 4 (st.leftB L k).at _ (HIR.out.later (show Below wr.heap.size wr _ from (by repeat (first | (with_reducible exact Below.refl _ _) | (with_reducible refine Below.drew ?_) | (with_reducible refine below_drewN ?_ _) | ((with_reducible refine below_alloc ?_ ?_ _); · (first | exact Nat.le_refl _ | omega | (simp; done) | (simp; omega) | (simp at *; omega))) | ((with_reducible refine below_set ?_ ?_ _); · (first | exact Nat.le_refl _ | omega | (simp; done) | (simp; omega) | (simp at *; omega))) | ((with_reducible refine below_via (by with_reducible assumption) ?_ ?_); · (first | exact Nat.le_refl _ | omega | (simp; done) | (simp; omega) | (simp at *; omega))))))) (by omega) 118 (fun p => decide (0 ≤ (st.leftB L k).at p)) (enters_of Try.func118 (by kernel_rfl) rfl) (fun p hp w => earns1 _ w)).mono ?_
          rintro e w6 ⟨rfl, hb⟩
          rw [HAL.out]
          have HB6 := Lib.hid (HBW.out.trans (hb.mono HBW.out.size))
          clear hb
          cases hall : allN (fun p => decide (planSum k L p ≤ (st.P p).s)) st.n with
          | true =>
            have HR : Hid (st.earnsR k L = (sumN (fun j => st.brings (bagOf (L j).2 st.n)) k, 0)) := Lib.hid (by
              have e : st.earnsErr k L = 0 := by rw [HE0.out, HFE.out, if_neg (by simp), hall, if_neg (by simp)]
              unfold St.earnsR; rw [e]; rfl)
            go_wp2_with fail
            go_ret2
            exact ⟨by rw [HR.out]; rfl, HB6.out⟩
          | false =>
            have HR : Hid (st.earnsR k L = (0, 8)) := Lib.hid (by
              have e : st.earnsErr k L = 8 := by rw [HE0.out, HFE.out, if_neg (by simp), hall, if_pos rfl]
              unfold St.earnsR; rw [e]; rfl)
            go_wp2_with fail
            go_ret2
            exact ⟨by rw [HR.out]; rfl, HB6.out⟩
  · have HR : Hid (st.earnsR m L = (0, st.check)) := Lib.hid (by
      have e : st.earnsErr m L = st.check := by unfold St.earnsErr; rw [if_pos hne]
      unfold St.earnsR; rw [e, if_pos hne])
    have hnb : (st.check != 0) = true := by simpa using hne
    have HB1 := Lib.hid (show Below W.heap.size W w1 from (by repeat (first | (with_reducible exact Below.refl _ _) | (with_reducible refine Below.drew ?_) | (with_reducible refine below_drewN ?_ _) | ((with_reducible refine below_alloc ?_ ?_ _); · (first | exact Nat.le_refl _ | omega | (simp; done) | (simp; omega) | (simp at *; omega))) | ((with_reducible refine below_set ?_ ?_ _); · (first | exact Nat.le_refl _ | omega | (simp; done) | (simp; omega) | (simp at *; omega))) | ((with_reducible refine below_via (by with_reducible assumption) ?_ ?_); · (first | exact Nat.le_refl _ | omega | (simp; done) | (simp; omega) | (simp at *; omega))))))
    clear hne hb1
    go_wp2_with fail
    go_ret2
    exact ⟨by rw [HR.out]; rfl, HB1.out⟩
end Go.Proofs.Ytegmomappbehcaa
