/- The reference: span, has, sure, brings. -/
import Derived.Test.YtegmomappbehcaaTd
set_option linter.unusedSimpArgs false
set_option linter.unusedVariables false
namespace Go.Proofs.Ytegmomappbehcaa
open Go.RowKit Go.Shelf

theorem bagOf_at {X : Nat → Int} {n k : Nat} (hk : k < n) (h4 : k < 4) : (bagOf X n).at k = X k := by
  match k, h4 with
  | 0, _ => exact if_pos hk
  | 1, _ => exact if_pos hk
  | 2, _ => exact if_pos hk
  | 3, _ => exact if_pos hk
  | k + 4, h => exact absurd h (by omega)
theorem bagOf_size {X : Nat → Int} {n : Nat} (hn : n ≤ 4) : (bagOf X n).size = sumN X n := by
  unfold Bag.size bagOf bagK
  rcases (show n = 0 ∨ n = 1 ∨ n = 2 ∨ n = 3 ∨ n = 4 by omega) with rfl | rfl | rfl | rfl | rfl <;> simp [sumN]
theorem ask_rng {st : St} {n : Nat} {X : Nat → Int} (h : st.askErr n X = 0) : ∀ k, k < st.n → 0 ≤ X k ∧ X k ≤ (st.P k).s := by
  obtain ⟨_, h, rfl⟩ := St.askErr_ok h
  unfold St.lotErr at h
  rw [if_neg (by simp)] at h
  by_cases h2 : allN (fun k => inB (X k) 0 (st.P k).s) st.n = false
  · rw [if_pos h2] at h; cases h
  simp only [Bool.not_eq_false] at h2
  intro k hk
  have h3 := allN_iff.1 h2 k hk
  simpa [inB] using h3
theorem rng_in {st : St} (hst : st.ok) {X : Nat → Int} (hX : ∀ k, k < st.n → 0 ≤ X k ∧ X k ≤ (st.P k).s) : (bagOf X st.n).in_ st.all := by
  have n4 := hst.n4
  refine bagOf_in ?_
  unfold St.lotErr
  rw [if_neg (by simp), if_neg]
  simp only [Bool.not_eq_false]
  exact allN_iff.2 (fun k hk => by simpa [inB] using hX k hk)
theorem tr_span {st : St} (hst : st.ok) {X : Nat → Int} (hX : ∀ k, k < st.n → 0 ≤ X k ∧ X k ≤ (st.P k).s) : eS ((25 : Nat) : Int) (st.tr X (-1) 0 st.n) 25 = (st.lo (bagOf X st.n), st.hi (bagOf X st.n)) := by
  have n4 := hst.n4
  have hin := rng_in hst hX
  have h1 := St.lo_bd hst hin
  have h2 := St.hi_bd hst hin
  have e1 : sumN (st.tlo X (-1) 0) st.n = st.lo (bagOf X st.n) := sumN_congr (fun k hk => by
    unfold St.tlo; rw [if_neg (by omega), bagOf_at hk (by omega)])
  have e2 : sumN (st.thi X (-1) 0) st.n = st.hi (bagOf X st.n) := sumN_congr (fun k hk => by
    unfold St.thi; rw [if_neg (by omega), bagOf_at hk (by omega)])
  have h3 := St.tr_iff hst.pk hst.sp hX (pick := -1) (F := 0) (fun k _ h => by omega) st.n (Nat.le_refl _)
  rw [e1, e2] at h3
  have hle : st.lo (bagOf X st.n) ≤ st.hi (bagOf X st.n) := sumN_le (fun k hk => by
    have a := hst.pk k hk
    have b := hst.sp k hk
    have c := hX k hk
    rw [bagOf_at hk (by omega)]
    unfold Pk.rng at a
    have : (st.P k).hi ≤ (st.P k).s := by unfold Pk.hi; omega
    have : (st.P k).hi ≤ (st.P k).s - (st.P k).o + (st.P k).f := by unfold Pk.hi; omega
    unfold Pk.loOf Pk.hiOf
    omega)
  exact eS_all (len := 25) h1.1 hle (by omega) (fun j _ => h3 j)

set_option maxRecDepth 100000 in
set_option maxHeartbeats 1000000 in
theorem rspan_any (st : St) (hst : st.ok) (B : Nat) (pA gA : Option Addr) (pc gc : Nat) (lA : Option Addr) (lc : Nat) (X : Nat → Int) (W : World) (hs : StRow W B st pA pc gA gc) (hl : IntRow W W.heap.size lA st.n X) (hX : ∀ k, k < st.n → 0 ≤ X k ∧ X k ≤ (st.P k).s) :
    Calls Try.prog 93 #[stV pA st.n pc gA st.m gc st.lots, .slice lA st.n lc] W fun e W' => e = .returned (.agg #[.int .i64 (st.lo (bagOf X st.n)), .int .i64 (st.hi (bagOf X st.n))]) ∧ Below W.heap.size W W' := by
  have HS := Lib.hid hs
  have HL := Lib.hid hl
  have HX := Lib.hid hX
  have HST := Lib.hid hst
  have hB := hs.lt
  have HT := Lib.hid (tr_span hst hX)
  clear hs hl hX hst
  go_enter Try.func93, Try.ntmps93
  go_wp2_with fail
  refine (truths_any st HST.out B pA gA pc gc lA lc X (-1) 0 _ (HS.out.later (by repeat (first | (with_reducible exact Below.refl _ _) | (with_reducible refine Below.drew ?_) | (with_reducible refine below_drewN ?_ _) | ((with_reducible refine below_alloc ?_ ?_ _); · (first | exact Nat.le_refl _ | omega | (simp; done) | (simp; omega) | (simp at *; omega))) | ((with_reducible refine below_set ?_ ?_ _); · (first | exact Nat.le_refl _ | omega | (simp; done) | (simp; omega) | (simp at *; omega))) | ((with_reducible refine below_via (by with_reducible assumption) ?_ ?_); · (first | exact Nat.le_refl _ | omega | (simp; done) | (simp; omega) | (simp at *; omega)))))) (HL.out.later (by repeat (first | (with_reducible exact Below.refl _ _) | (with_reducible refine Below.drew ?_) | (with_reducible refine below_drewN ?_ _) | ((with_reducible refine below_alloc ?_ ?_ _); · (first | exact Nat.le_refl _ | omega | (simp; done) | (simp; omega) | (simp at *; omega))) | ((with_reducible refine below_set ?_ ?_ _); · (first | exact Nat.le_refl _ | omega | (simp; done) | (simp; omega) | (simp at *; omega))) | ((with_reducible refine below_via (by with_reducible assumption) ?_ ?_); · (first | exact Nat.le_refl _ | omega | (simp; done) | (simp; omega) | (simp at *; omega)))))) HX.out).mono ?_
  rintro e w1 ⟨⟨b, rfl, hbl, hq⟩, hb1⟩
  have HB1 := Lib.hid (show Below W.heap.size W w1 from (by repeat (first | (with_reducible exact Below.refl _ _) | (with_reducible refine Below.drew ?_) | (with_reducible refine below_drewN ?_ _) | ((with_reducible refine below_alloc ?_ ?_ _); · (first | exact Nat.le_refl _ | omega | (simp; done) | (simp; omega) | (simp at *; omega))) | ((with_reducible refine below_set ?_ ?_ _); · (first | exact Nat.le_refl _ | omega | (simp; done) | (simp; omega) | (simp at *; omega))) | ((with_reducible refine below_via (by with_reducible assumption) ?_ ?_); · (first | exact Nat.le_refl _ | omega | (simp; done) | (simp; omega) | (simp at *; omega))))))
  have hz1 := Lib.hid (show Z2 w1 (W.heap.size + 1) from (show Z2 ((W.alloc (.cells #[.slice pA st.n pc, .slice gA st.m gc, .int .i64 st.lots] 34)).alloc (.cells #[.int .i64 0, .int .i64 0] 50)) (W.heap.size + 1) from (by (repeat' refine And.intro ?_ ?_) <;> (repeat (first | (with_reducible assumption) | (simp; done) | (with_reducible refine cell_drew_of ?_) | (with_reducible refine cell_drewN_of ?_) | (with_reducible refine cell_below_of (by with_reducible assumption) ?_) | ((with_reducible refine cell_new_of ?_ ?_) <;> (first | (with_reducible rfl) | (simp; done))) | ((with_reducible refine fro_new_of ?_) <;> (first | (with_reducible rfl) | (simp; done))) | (with_reducible refine cell_alloc_of _ ?_) | (with_reducible refine cell_set_of _ (by (first | exact Nat.le_refl _ | omega | (simp; done) | (simp; omega))) ?_) | (with_reducible refine fro_drew_of ?_) | (with_reducible refine fro_drewN_of ?_) | (with_reducible refine fro_below_of (by with_reducible assumption) (by (first | exact Nat.le_refl _ | omega | (simp; done) | (simp; omega))) ?_) | (with_reducible refine fro_alloc_of _ (by (first | exact Nat.le_refl _ | omega | (simp; done) | (simp; omega))) ?_) | (with_reducible refine fro_set_of _ ?_))))).later hb1)
  have hs1 := hb1.size
  simp only [World.size_alloc] at hs1
  have HQ := Lib.hid hq
  clear hb1 hq hbl
  go_wp2_with fail
  refine (rends_any (some ⟨b, 0, none⟩) 25 25 _ _ HQ.out.row (by decide)).mono ?_
  rintro e w2 ⟨rfl, hb2⟩
  rw [HT.out]
  have hz2 := Lib.hid (hz1.out.later hb2)
  have HB2 := Lib.hid (HB1.out.trans (hb2.mono (by omega)))
  have hs2 := hb2.size
  obtain ⟨⟨a0, a1⟩, f0, f1⟩ := hz2.out
  have q := ((show N2At w2 (W.heap.size + 1) 0 0 from hz2.out).set0 (st.lo (bagOf X st.n))).set1 (st.hi (bagOf X st.n))
  have hbo := HB2.out
  have hqb := Lib.hid (show Below W.heap.size W ((w2.setCell ⟨W.heap.size + 1, 0, none⟩ (.int .i64 (st.lo (bagOf X st.n)))).setCell ⟨W.heap.size + 1, 1, none⟩ (.int .i64 (st.hi (bagOf X st.n)))) from (by repeat (first | (with_reducible exact Below.refl _ _) | (with_reducible refine Below.drew ?_) | (with_reducible refine below_drewN ?_ _) | ((with_reducible refine below_alloc ?_ ?_ _); · (first | exact Nat.le_refl _ | omega | (simp; done) | (simp; omega) | (simp at *; omega))) | ((with_reducible refine below_set ?_ ?_ _); · (first | exact Nat.le_refl _ | omega | (simp; done) | (simp; omega) | (simp at *; omega))) | ((with_reducible refine below_via (by with_reducible assumption) ?_ ?_); · (first | exact Nat.le_refl _ | omega | (simp; done) | (simp; omega) | (simp at *; omega))))))
  clear hb2 hbo
  go_wp2_with fail
  obtain ⟨⟨q0, q1⟩, _⟩ := q
  exact bodyPost_ret (v := .agg #[.int .i64 (st.lo (bagOf X st.n)), .int .i64 (st.hi (bagOf X st.n))]) (by simp [results, Try.results93, go_sem, q0, q1]) rfl ⟨rfl, hqb.out⟩
theorem rsize_bel (st : St) (hst : st.ok) (A : Option Addr) (c : Nat) (X : Nat → Int) (W : World) (hl : IntRow W W.heap.size A st.n X) (hX : ∀ k, k < st.n → 0 ≤ X k ∧ X k ≤ (st.P k).s) :
    Calls Try.prog 86 #[.slice A st.n c] W fun e W' => e = .returned (.int .i64 (bagOf X st.n).size) ∧ Below W.heap.size W W' := by
  have n4 := hst.n4
  rw [bagOf_size n4]
  exact (rsize_any A st.n c X W hl (by omega) (fun k hk => by have := hX k hk; have := (hst.pk k hk).1; omega)).mono (fun _ _ h => ⟨h.1, h.2 ▸ Below.refl _ _⟩)

set_option maxRecDepth 100000 in
set_option maxHeartbeats 1000000 in
theorem rhas_any (st : St) (hst : st.ok) (B : Nat) (pA gA : Option Addr) (pc gc : Nat) (lA : Option Addr) (lc : Nat) (X : Nat → Int) (g : Gd) (hg : g.rng) (W : World) (hs : StRow W B st pA pc gA gc) (hl : IntRow W W.heap.size lA st.n X) (hX : ∀ k, k < st.n → 0 ≤ X k ∧ X k ≤ (st.P k).s) :
    Calls Try.prog 85 #[stV pA st.n pc gA st.m gc st.lots, .slice lA st.n lc, gdV g] W fun e W' => e = .returned (.bool (st.has (bagOf X st.n) g)) ∧ Below W.heap.size W W' := by
  have HS := Lib.hid hs
  have HL := Lib.hid hl
  have HX := Lib.hid hX
  have HST := Lib.hid hst
  have hB := hs.lt
  have hin := rng_in hst hX
  have bd1 := St.hi_bd hst hin
  have bd2 := St.size_bd hst hin
  have bd3 := mul_bd hg.1 bd2
  have HH : Hid (st.has (bagOf X st.n) g = (decide (0 < (bagOf X st.n).size) && decide (100 * st.hi (bagOf X st.n) ≤ g.foul * (bagOf X st.n).size))) := Lib.hid rfl
  have ew1 : IntKind.i64.wrap (100 * st.hi (bagOf X st.n)) = 100 * st.hi (bagOf X st.n) := IntWalk.i64_in _ (by omega)
  have ew2 : IntKind.i64.wrap (g.foul * (bagOf X st.n).size) = g.foul * (bagOf X st.n).size := IntWalk.i64_in _ (by omega)
  clear hs hl hX hst hin
  go_enter Try.func85, Try.ntmps85
  by_cases hpos : 1 ≤ (bagOf X st.n).size
  · have hd : decide (0 < (bagOf X st.n).size) = true := by simp; omega
    rw [hd, Bool.true_and] at HH
    go_wp2_with fail
    refine wp_world (fun W1 => (W1.cell? ⟨W.heap.size, 0, none⟩ = some (.slice pA st.n pc) ∧ W1.cell? ⟨W.heap.size, 1, none⟩ = some (.slice gA st.m gc) ∧ W1.cell? ⟨W.heap.size, 2, none⟩ = some (.int .i64 st.lots) ∧ W1.cell? ⟨W.heap.size + 1, 0, none⟩ = some (.int .i64 g.foul)) ∧ Below W.heap.size W W1) ⟨(by (repeat' refine And.intro ?_ ?_) <;> (repeat (first | (with_reducible assumption) | (simp; done) | (with_reducible refine cell_drew_of ?_) | (with_reducible refine cell_drewN_of ?_) | (with_reducible refine cell_below_of (by with_reducible assumption) ?_) | ((with_reducible refine cell_new_of ?_ ?_) <;> (first | (with_reducible rfl) | (simp; done))) | ((with_reducible refine fro_new_of ?_) <;> (first | (with_reducible rfl) | (simp; done))) | (with_reducible refine cell_alloc_of _ ?_) | (with_reducible refine cell_set_of _ (by (first | exact Nat.le_refl _ | omega | (simp; done) | (simp; omega))) ?_) | (with_reducible refine fro_drew_of ?_) | (with_reducible refine fro_drewN_of ?_) | (with_reducible refine fro_below_of (by with_reducible assumption) (by (first | exact Nat.le_refl _ | omega | (simp; done) | (simp; omega))) ?_) | (with_reducible refine fro_alloc_of _ (by (first | exact Nat.le_refl _ | omega | (simp; done) | (simp; omega))) ?_) | (with_reducible refine fro_set_of _ ?_)))), (by repeat (first | (with_reducible exact Below.refl _ _) | (with_reducible refine Below.drew ?_) | (with_reducible refine below_drewN ?_ _) | ((with_reducible refine below_alloc ?_ ?_ _); · (first | exact Nat.le_refl _ | omega | (simp; done) | (simp; omega) | (simp at *; omega))) | ((with_reducible refine below_set ?_ ?_ _); · (first | exact Nat.le_refl _ | omega | (simp; done) | (simp; omega) | (simp at *; omega))) | ((with_reducible refine below_via (by with_reducible assumption) ?_ ?_); · (first | exact Nat.le_refl _ | omega | (simp; done) | (simp; omega) | (simp at *; omega)))))⟩ ?_
    rintro W1 ⟨⟨a0, a1, a2, a3⟩, hb1⟩
    have HB1 := Lib.hid hb1
    have hs1 := hb1.size
    refine region_qbw (by kernel_rfl) (by kernel_rfl) ?_
    have x0 := cell_regrown a0
    have x1 := cell_regrown a1
    have x2 := cell_regrown a2
    have x3 := cell_regrown a3
    clear hb1 a0 a1 a2 a3
    repeat (first | go_big_quiet_step (first | (go_at_call 86; exact Calls.regrown_of (rsize_bel st HST.out lA lc X _ (HL.out.later (HB1.out.trans ((below_regrown _ _ _).mono hs1))) HX.out)) | (go_at_call 93; exact Calls.regrown_of (rspan_any st HST.out B pA gA pc gc lA lc X _ (HS.out.later (HB1.out.trans ((below_regrown _ _ _).mono hs1) |>.mono hB)) (HL.out.later (HB1.out.trans ((below_regrown _ _ _).mono hs1))) HX.out))) | quiet_step (first | (go_at_call 86; exact Calls.regrown_of (rsize_bel st HST.out lA lc X _ (HL.out.later (HB1.out.trans ((below_regrown _ _ _).mono hs1))) HX.out)) | (go_at_call 93; exact Calls.regrown_of (rspan_any st HST.out B pA gA pc gc lA lc X _ (HS.out.later (HB1.out.trans ((below_regrown _ _ _).mono hs1) |>.mono hB)) (HL.out.later (HB1.out.trans ((below_regrown _ _ _).mono hs1))) HX.out))))
    refine wpQuiet_nil ?_; intro wq hbq
    have hyq := Lib.hid (HB1.out.trans (hbq.mono hs1))
    clear x0 x1 x2 x3 hbq
    go_wp2_with fail
    go_ret
    exact ⟨by rw [HH.out]; rfl, hyq.out⟩
  · have hd : decide (0 < (bagOf X st.n).size) = false := by simp; omega
    rw [hd, Bool.false_and] at HH
    have hb0 : decide ((1 : Int) ≤ (bagOf X st.n).size) = false := by simp; omega
    go_wp2_with fail
    refine wp_world (fun W1 => Below W.heap.size W W1) (by repeat (first | (with_reducible exact Below.refl _ _) | (with_reducible refine Below.drew ?_) | (with_reducible refine below_drewN ?_ _) | ((with_reducible refine below_alloc ?_ ?_ _); · (first | exact Nat.le_refl _ | omega | (simp; done) | (simp; omega) | (simp at *; omega))) | ((with_reducible refine below_set ?_ ?_ _); · (first | exact Nat.le_refl _ | omega | (simp; done) | (simp; omega) | (simp at *; omega))) | ((with_reducible refine below_via (by with_reducible assumption) ?_ ?_); · (first | exact Nat.le_refl _ | omega | (simp; done) | (simp; omega) | (simp at *; omega))))) ?_
    intro W1 hb1
    have HB1 := Lib.hid hb1
    have hs1 := hb1.size
    refine region_qbw (by kernel_rfl) (by kernel_rfl) ?_
    clear hb1
    repeat (first | go_big_quiet_step ((go_at_call 86; exact Calls.regrown_of (rsize_bel st HST.out lA lc X _ (HL.out.later (HB1.out.trans ((below_regrown _ _ _).mono hs1))) HX.out))) | quiet_step ((go_at_call 86; exact Calls.regrown_of (rsize_bel st HST.out lA lc X _ (HL.out.later (HB1.out.trans ((below_regrown _ _ _).mono hs1))) HX.out))))
    refine wpQuiet_nil ?_; intro wq hbq
    have hyq := Lib.hid (HB1.out.trans (hbq.mono hs1))
    clear hbq
    go_wp2_with fail
    go_ret
    exact ⟨by rw [HH.out]; rfl, hyq.out⟩

theorem firstFrom_zero {st : St} {x : Bag} (h : ¬ 0 < x.size) : ∀ r i, st.firstFrom x r i = i + r
  | 0, i => rfl
  | r + 1, i => by
    unfold St.firstFrom
    rw [if_neg (by simp [St.has, h]), firstFrom_zero h r (i + 1)]
    omega
theorem sureI_zero {st : St} {x : Bag} (h : ¬ 0 < x.size) : st.sureI x = -1 := by
  unfold St.sureI St.first
  rw [firstFrom_zero h, if_neg (by omega)]

set_option maxRecDepth 100000 in
set_option maxHeartbeats 2000000 in
theorem rsure_any (st : St) (hst : st.ok) (B : Nat) (pA gA : Option Addr) (pc gc : Nat) (lA : Option Addr) (lc : Nat) (X : Nat → Int) (W : World) (hs : StRow W B st pA pc gA gc) (hl : IntRow W W.heap.size lA st.n X) (hX : ∀ k, k < st.n → 0 ≤ X k ∧ X k ≤ (st.P k).s) :
    Calls Try.prog 124 #[stV pA st.n pc gA st.m gc st.lots, .slice lA st.n lc] W fun e W' => e = .returned (.int .i64 (st.sureI (bagOf X st.n))) ∧ Below W.heap.size W W' := by
  have HS := Lib.hid hs
  have HL := Lib.hid hl
  have HX := Lib.hid hX
  have HST := Lib.hid hst
  have hB := hs.lt
  have hin := rng_in hst hX
  have bd1 := St.hi_bd hst hin
  have bd2 := St.size_bd hst hin
  have m4 := hst.m4
  clear hs hl hX hst hin
  go_enter Try.func124, Try.ntmps124
  go_wp2_with fail
  refine (rsize_bel st HST.out lA lc X _ (HL.out.later (by repeat (first | (with_reducible exact Below.refl _ _) | (with_reducible refine Below.drew ?_) | (with_reducible refine below_drewN ?_ _) | ((with_reducible refine below_alloc ?_ ?_ _); · (first | exact Nat.le_refl _ | omega | (simp; done) | (simp; omega) | (simp at *; omega))) | ((with_reducible refine below_set ?_ ?_ _); · (first | exact Nat.le_refl _ | omega | (simp; done) | (simp; omega) | (simp at *; omega))) | ((with_reducible refine below_via (by with_reducible assumption) ?_ ?_); · (first | exact Nat.le_refl _ | omega | (simp; done) | (simp; omega) | (simp at *; omega)))))) HX.out).mono ?_
  rintro e w1 ⟨rfl, hb1⟩
  have HB1 := Lib.hid (show Below W.heap.size W w1 from (by repeat (first | (with_reducible exact Below.refl _ _) | (with_reducible refine Below.drew ?_) | (with_reducible refine below_drewN ?_ _) | ((with_reducible refine below_alloc ?_ ?_ _); · (first | exact Nat.le_refl _ | omega | (simp; done) | (simp; omega) | (simp at *; omega))) | ((with_reducible refine below_set ?_ ?_ _); · (first | exact Nat.le_refl _ | omega | (simp; done) | (simp; omega) | (simp at *; omega))) | ((with_reducible refine below_via (by with_reducible assumption) ?_ ?_); · (first | exact Nat.le_refl _ | omega | (simp; done) | (simp; omega) | (simp at *; omega))))))
  have hs1 := hb1.size
  simp only [World.size_alloc] at hs1
  have HA := Lib.hid (show w1.cell? ⟨W.heap.size, 0, none⟩ = some (.slice pA st.n pc) ∧ w1.cell? ⟨W.heap.size, 1, none⟩ = some (.slice gA st.m gc) ∧ w1.cell? ⟨W.heap.size, 2, none⟩ = some (.int .i64 st.lots) from ⟨cell_below_of hb1 (by (repeat' refine And.intro ?_ ?_) <;> (repeat (first | (with_reducible assumption) | (simp; done) | (with_reducible refine cell_drew_of ?_) | (with_reducible refine cell_drewN_of ?_) | (with_reducible refine cell_below_of (by with_reducible assumption) ?_) | ((with_reducible refine cell_new_of ?_ ?_) <;> (first | (with_reducible rfl) | (simp; done))) | ((with_reducible refine fro_new_of ?_) <;> (first | (with_reducible rfl) | (simp; done))) | (with_reducible refine cell_alloc_of _ ?_) | (with_reducible refine cell_set_of _ (by (first | exact Nat.le_refl _ | omega | (simp; done) | (simp; omega))) ?_) | (with_reducible refine fro_drew_of ?_) | (with_reducible refine fro_drewN_of ?_) | (with_reducible refine fro_below_of (by with_reducible assumption) (by (first | exact Nat.le_refl _ | omega | (simp; done) | (simp; omega))) ?_) | (with_reducible refine fro_alloc_of _ (by (first | exact Nat.le_refl _ | omega | (simp; done) | (simp; omega))) ?_) | (with_reducible refine fro_set_of _ ?_)))), cell_below_of hb1 (by (repeat' refine And.intro ?_ ?_) <;> (repeat (first | (with_reducible assumption) | (simp; done) | (with_reducible refine cell_drew_of ?_) | (with_reducible refine cell_drewN_of ?_) | (with_reducible refine cell_below_of (by with_reducible assumption) ?_) | ((with_reducible refine cell_new_of ?_ ?_) <;> (first | (with_reducible rfl) | (simp; done))) | ((with_reducible refine fro_new_of ?_) <;> (first | (with_reducible rfl) | (simp; done))) | (with_reducible refine cell_alloc_of _ ?_) | (with_reducible refine cell_set_of _ (by (first | exact Nat.le_refl _ | omega | (simp; done) | (simp; omega))) ?_) | (with_reducible refine fro_drew_of ?_) | (with_reducible refine fro_drewN_of ?_) | (with_reducible refine fro_below_of (by with_reducible assumption) (by (first | exact Nat.le_refl _ | omega | (simp; done) | (simp; omega))) ?_) | (with_reducible refine fro_alloc_of _ (by (first | exact Nat.le_refl _ | omega | (simp; done) | (simp; omega))) ?_) | (with_reducible refine fro_set_of _ ?_)))), cell_below_of hb1 (by (repeat' refine And.intro ?_ ?_) <;> (repeat (first | (with_reducible assumption) | (simp; done) | (with_reducible refine cell_drew_of ?_) | (with_reducible refine cell_drewN_of ?_) | (with_reducible refine cell_below_of (by with_reducible assumption) ?_) | ((with_reducible refine cell_new_of ?_ ?_) <;> (first | (with_reducible rfl) | (simp; done))) | ((with_reducible refine fro_new_of ?_) <;> (first | (with_reducible rfl) | (simp; done))) | (with_reducible refine cell_alloc_of _ ?_) | (with_reducible refine cell_set_of _ (by (first | exact Nat.le_refl _ | omega | (simp; done) | (simp; omega))) ?_) | (with_reducible refine fro_drew_of ?_) | (with_reducible refine fro_drewN_of ?_) | (with_reducible refine fro_below_of (by with_reducible assumption) (by (first | exact Nat.le_refl _ | omega | (simp; done) | (simp; omega))) ?_) | (with_reducible refine fro_alloc_of _ (by (first | exact Nat.le_refl _ | omega | (simp; done) | (simp; omega))) ?_) | (with_reducible refine fro_set_of _ ?_))))⟩)
  clear hb1
  by_cases hpos : 0 < (bagOf X st.n).size
  · have hnb : ((bagOf X st.n).size == 0) = false := by rw [beq_eq_false_iff_ne]; omega
    obtain ⟨a0, a1, a2⟩ := HA.out
    have ew1 : IntKind.i64.wrap (100 * st.hi (bagOf X st.n)) = 100 * st.hi (bagOf X st.n) := IntWalk.i64_in _ (by omega)
    have HH : Hid (∀ g, st.has (bagOf X st.n) g = decide (100 * st.hi (bagOf X st.n) ≤ g.foul * (bagOf X st.n).size)) := Lib.hid (fun g => by unfold St.has; rw [decide_eq_true hpos, Bool.true_and])
    go_wp2_with fail
    refine (rspan_any st HST.out B pA gA pc gc lA lc X _ (HS.out.later (HB1.out.mono hB)) (HL.out.later HB1.out) HX.out).mono ?_
    rintro e w2 ⟨rfl, hb2⟩
    have HB2 := Lib.hid (HB1.out.trans (hb2.mono (by omega)))
    have hs2 := hb2.size
    have HA2 := Lib.hid (cell_same (hb2.block _ (by omega)) a1)
    clear hb2 a0 a1 a2
    go_wp2_with fail
    go_loopw [6] (fun i wr => ∃ k : Nat, k ≤ st.m ∧ i = .int .i64 k ∧ Hid (st.first (bagOf X st.n) = st.firstFrom (bagOf X st.n) (st.m - k) k) ∧ Hid (Below w2.heap.size w2 wr)) (fun i _ => st.m - (intOf i).toNat)
    case atStart => exact ⟨0, Nat.zero_le _, rfl, Lib.hid rfl, Lib.hid (Below.refl _ _)⟩
    case round =>
      obtain ⟨k, hk, rfl, hf, hbw⟩ := hrel
      have hyw : Hid (Below W.heap.size W wr) := Lib.hid (HB2.out.trans (hbw.out.mono (by omega)))
      have hsw := hyw.out.size
      have a1 := cell_same (hbw.out.block W.heap.size (by omega)) HA2.out
      by_cases hlt : k < st.m
      · obtain ⟨b, o, rfl, hbl, c0, c1⟩ := (HS.out.g.below (hyw.out.mono hB)) k hlt
        have hk0 : (0 : Int) ≤ (k : Int) := by omega
        have hkn : (k : Int) < (st.m : Int) := by omega
        have bdg := HST.out.gd k hlt
        have bd3 := mul_bd bdg.1 bd2
        have ew2 : IntKind.i64.wrap ((st.G k).foul * (bagOf X st.n).size) = (st.G k).foul * (bagOf X st.n).size := IntWalk.i64_in _ (by omega)
        clear bd3 bdg
        cases hd : decide (100 * st.hi (bagOf X st.n) ≤ (st.G k).foul * (bagOf X st.n).size) with
        | true =>
          have HR : Hid (st.sureI (bagOf X st.n) = k) := Lib.hid (by
            unfold St.sureI
            have e : st.first (bagOf X st.n) = k := by rw [hf.out, show st.m - k = (st.m - k - 1) + 1 from by omega, St.firstFrom, if_pos (by rw [HH.out, hd])]
            rw [e, if_pos hlt])
          go_wp2_with fail
          refine region_qbw (by kernel_rfl) (by kernel_rfl) ?_
          have x1 := cell_regrown a1
          have x2 := cell_regrown c0
          clear a1 c0 c1
          repeat (first | go_big_quiet_step ((go_at_call 86; exact Calls.regrown_of (rsize_bel st HST.out lA lc X _ (HL.out.later (hyw.out.trans ((below_regrown _ _ _).mono hsw))) HX.out))) | quiet_step ((go_at_call 86; exact Calls.regrown_of (rsize_bel st HST.out lA lc X _ (HL.out.later (hyw.out.trans ((below_regrown _ _ _).mono hsw))) HX.out))))
          refine wpQuiet_nil ?_; intro wq hbq
          have hyq := Lib.hid (hyw.out.trans (hbq.mono hsw))
          clear x1 x2 hbq
          go_wp2_with fail
          go_ret
          exact ⟨by rw [HR.out]; rfl, hyq.out⟩
        | false =>
          have HF : Hid (st.first (bagOf X st.n) = st.firstFrom (bagOf X st.n) (st.m - (k + 1)) (k + 1)) := Lib.hid (St.first_no hlt hf.out (by rw [HH.out, hd]))
          go_wp2_with fail
          refine region_qbw (by kernel_rfl) (by kernel_rfl) ?_
          have x1 := cell_regrown a1
          have x2 := cell_regrown c0
          clear a1 c0 c1
          repeat (first | go_big_quiet_step ((go_at_call 86; exact Calls.regrown_of (rsize_bel st HST.out lA lc X _ (HL.out.later (hyw.out.trans ((below_regrown _ _ _).mono hsw))) HX.out))) | quiet_step ((go_at_call 86; exact Calls.regrown_of (rsize_bel st HST.out lA lc X _ (HL.out.later (hyw.out.trans ((below_regrown _ _ _).mono hsw))) HX.out))))
          refine wpQuiet_nil ?_; intro wq hbq
          have hbw2 := Lib.hid (hbw.out.trans (hbq.mono hbw.out.size))
          clear x1 x2 hbq
          go_wp2_with fail
          go_roundw
          case rel => exact ⟨k + 1, by omega, by go_num, HF, hbw2⟩
          case measure => simp [intOf]; omega
      · have hk' : k = st.m := by omega
        have hge : ¬ (k : Int) < (st.m : Int) := by omega
        have HR : Hid (st.sureI (bagOf X st.n) = -1) := Lib.hid (by
          unfold St.sureI
          have e := hf.out
          rw [hk', Nat.sub_self] at e
          rw [e]
          simp [St.firstFrom])
        clear hk'
        go_wp2_with fail
        go_ret
        exact ⟨by rw [HR.out]; rfl, hyw.out⟩
  · have hnb : ((bagOf X st.n).size == 0) = true := by rw [beq_iff_eq]; omega
    have HR : Hid (st.sureI (bagOf X st.n) = -1) := Lib.hid (sureI_zero hpos)
    go_wp2_with fail
    go_ret
    exact ⟨by rw [HR.out]; rfl, HB1.out⟩

set_option maxRecDepth 100000 in
set_option maxHeartbeats 2000000 in
theorem rbrings_any (st : St) (hst : st.ok) (B : Nat) (pA gA : Option Addr) (pc gc : Nat) (lA : Option Addr) (lc : Nat) (X : Nat → Int) (W : World) (hs : StRow W B st pA pc gA gc) (hl : IntRow W W.heap.size lA st.n X) (hX : ∀ k, k < st.n → 0 ≤ X k ∧ X k ≤ (st.P k).s) :
    Calls Try.prog 119 #[stV pA st.n pc gA st.m gc st.lots, .slice lA st.n lc] W fun e W' => e = .returned (.int .i64 (st.brings (bagOf X st.n))) ∧ Below W.heap.size W W' := by
  have HS := Lib.hid hs
  have HL := Lib.hid hl
  have HX := Lib.hid hX
  have HST := Lib.hid hst
  have hB := hs.lt
  have hin := rng_in hst hX
  have bd2 := St.size_bd hst hin
  have m4 := hst.m4
  clear hs hl hX hst hin
  go_enter Try.func119, Try.ntmps119
  go_wp2_with fail
  refine (rsure_any st HST.out B pA gA pc gc lA lc X _ (HS.out.later (by repeat (first | (with_reducible exact Below.refl _ _) | (with_reducible refine Below.drew ?_) | (with_reducible refine below_drewN ?_ _) | ((with_reducible refine below_alloc ?_ ?_ _); · (first | exact Nat.le_refl _ | omega | (simp; done) | (simp; omega) | (simp at *; omega))) | ((with_reducible refine below_set ?_ ?_ _); · (first | exact Nat.le_refl _ | omega | (simp; done) | (simp; omega) | (simp at *; omega))) | ((with_reducible refine below_via (by with_reducible assumption) ?_ ?_); · (first | exact Nat.le_refl _ | omega | (simp; done) | (simp; omega) | (simp at *; omega)))))) (HL.out.later (by repeat (first | (with_reducible exact Below.refl _ _) | (with_reducible refine Below.drew ?_) | (with_reducible refine below_drewN ?_ _) | ((with_reducible refine below_alloc ?_ ?_ _); · (first | exact Nat.le_refl _ | omega | (simp; done) | (simp; omega) | (simp at *; omega))) | ((with_reducible refine below_set ?_ ?_ _); · (first | exact Nat.le_refl _ | omega | (simp; done) | (simp; omega) | (simp at *; omega))) | ((with_reducible refine below_via (by with_reducible assumption) ?_ ?_); · (first | exact Nat.le_refl _ | omega | (simp; done) | (simp; omega) | (simp at *; omega)))))) HX.out).mono ?_
  rintro e w1 ⟨rfl, hb1⟩
  have HB1 := Lib.hid (show Below W.heap.size W w1 from (by repeat (first | (with_reducible exact Below.refl _ _) | (with_reducible refine Below.drew ?_) | (with_reducible refine below_drewN ?_ _) | ((with_reducible refine below_alloc ?_ ?_ _); · (first | exact Nat.le_refl _ | omega | (simp; done) | (simp; omega) | (simp at *; omega))) | ((with_reducible refine below_set ?_ ?_ _); · (first | exact Nat.le_refl _ | omega | (simp; done) | (simp; omega) | (simp at *; omega))) | ((with_reducible refine below_via (by with_reducible assumption) ?_ ?_); · (first | exact Nat.le_refl _ | omega | (simp; done) | (simp; omega) | (simp at *; omega))))))
  have hs1 := hb1.size
  simp only [World.size_alloc] at hs1
  have a1 : w1.cell? ⟨W.heap.size, 1, none⟩ = some (.slice gA st.m gc) := cell_below_of hb1 (by (repeat' refine And.intro ?_ ?_) <;> (repeat (first | (with_reducible assumption) | (simp; done) | (with_reducible refine cell_drew_of ?_) | (with_reducible refine cell_drewN_of ?_) | (with_reducible refine cell_below_of (by with_reducible assumption) ?_) | ((with_reducible refine cell_new_of ?_ ?_) <;> (first | (with_reducible rfl) | (simp; done))) | ((with_reducible refine fro_new_of ?_) <;> (first | (with_reducible rfl) | (simp; done))) | (with_reducible refine cell_alloc_of _ ?_) | (with_reducible refine cell_set_of _ (by (first | exact Nat.le_refl _ | omega | (simp; done) | (simp; omega))) ?_) | (with_reducible refine fro_drew_of ?_) | (with_reducible refine fro_drewN_of ?_) | (with_reducible refine fro_below_of (by with_reducible assumption) (by (first | exact Nat.le_refl _ | omega | (simp; done) | (simp; omega))) ?_) | (with_reducible refine fro_alloc_of _ (by (first | exact Nat.le_refl _ | omega | (simp; done) | (simp; omega))) ?_) | (with_reducible refine fro_set_of _ ?_))))
  clear hb1
  by_cases hf : st.first (bagOf X st.n) < st.m
  · have e1 : st.sureI (bagOf X st.n) = (st.first (bagOf X st.n) : Int) := by unfold St.sureI; rw [if_pos hf]
    have e2 : st.brings (bagOf X st.n) = (bagOf X st.n).size * (st.G (st.first (bagOf X st.n))).price := by unfold St.brings St.price; rw [if_pos hf]
    rw [e1]
    have HE2 := Lib.hid e2
    clear e1 e2
    have hs1' := HB1.out.size
    generalize st.first (bagOf X st.n) = k at hf HE2 ⊢
    obtain ⟨b, o, rfl, hbl, c0, c1⟩ := (HS.out.g.below (HB1.out.mono hB)) k hf
    have hk0 : (0 : Int) ≤ (k : Int) := by omega
    have hkn : (k : Int) < (st.m : Int) := by omega
    have bdg := HST.out.gd k hf
    have bd3 := mul_bd bd2 (show 0 ≤ (st.G k).price ∧ (st.G k).price ≤ 100 by have := bdg.2; omega)
    have ew2 : IntKind.i64.wrap ((bagOf X st.n).size * (st.G k).price) = (bagOf X st.n).size * (st.G k).price := IntWalk.i64_in _ (by omega)
    clear bd3 bdg
    go_wp2_with fail
    refine region_qbw (by kernel_rfl) (by kernel_rfl) ?_
    have x1 := cell_regrown a1
    have x2 := cell_regrown c1
    clear a1 c0 c1
    repeat (first | go_big_quiet_step ((go_at_call 86; exact Calls.regrown_of (rsize_bel st HST.out lA lc X _ (HL.out.later (HB1.out.trans ((below_regrown _ _ _).mono hs1'))) HX.out))) | quiet_step ((go_at_call 86; exact Calls.regrown_of (rsize_bel st HST.out lA lc X _ (HL.out.later (HB1.out.trans ((below_regrown _ _ _).mono hs1'))) HX.out))))
    refine wpQuiet_nil ?_; intro wq hbq
    have hyq := Lib.hid (HB1.out.trans (hbq.mono hs1'))
    clear x1 x2 hbq
    go_wp2_with fail
    go_ret
    exact ⟨by rw [HE2.out]; rfl, hyq.out⟩
  · have e1 : st.sureI (bagOf X st.n) = -1 := by unfold St.sureI; rw [if_neg hf]
    have e2 : Hid (st.brings (bagOf X st.n) = 0) := Lib.hid (by unfold St.brings St.price; rw [if_neg hf, Int.mul_zero])
    rw [e1]
    clear hf
    go_wp2_with fail
    go_ret
    exact ⟨by rw [e2.out]; rfl, HB1.out⟩
end Go.Proofs.Ytegmomappbehcaa
