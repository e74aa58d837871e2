/- The reference: after, Left, Tells. -/
import Derived.Test.YtegmomappbehcaaTf
import Derived.Test.YtegmomappbehcaaWz
set_option linter.unusedSimpArgs false
set_option linter.unusedVariables false
namespace Go.Proofs.Ytegmomappbehcaa
open Go.RowKit Go.Shelf

set_option maxRecDepth 100000 in
set_option maxHeartbeats 2000000 in
theorem after_any (b : Nat) (l : Nat → Bool) (size opened found : Int) (W : World) (hb : Bool25 W b l) (h1 : 0 ≤ size ∧ size ≤ 1000) (h2 : 0 ≤ opened ∧ opened ≤ 1000) (h3 : 0 ≤ found ∧ found ≤ 1000) :
    Calls Try.prog 96 #[.slice (some ⟨b, 0, none⟩) 25 25, .int .i64 size, .int .i64 opened, .int .i64 found] W fun e W' => (∃ b', e = .returned (.slice (some ⟨b', 0, none⟩) 25 25) ∧ Bool25 W' b' (aft l size opened found)) ∧ Below W.heap.size W W' := by
  have HQ := Lib.hid hb
  have hmk := mk25
  have hlt0 := hb.lt
  clear hb
  go_enter Try.func96, Try.ntmps96
  go_wp2_with fail
  refine wp_world (fun W1 => Bool25 W1 W.heap.size (fun _ => false) ∧ Below W.heap.size W W1 ∧ W.heap.size + 1 ≤ W1.heap.size) ⟨bool25_new _, (by repeat (first | (with_reducible exact Below.refl _ _) | (with_reducible refine Below.drew ?_) | (with_reducible refine below_drewN ?_ _) | ((with_reducible refine below_alloc ?_ ?_ _); · (first | exact Nat.le_refl _ | omega | (simp; done) | (simp; omega) | (simp at *; omega))) | ((with_reducible refine below_set ?_ ?_ _); · (first | exact Nat.le_refl _ | omega | (simp; done) | (simp; omega) | (simp at *; omega))) | ((with_reducible refine below_via (by with_reducible assumption) ?_ ?_); · (first | exact Nat.le_refl _ | omega | (simp; done) | (simp; omega) | (simp at *; omega))))), by simp⟩ ?_
  rintro W1 ⟨hq, hb1, hs1⟩
  have HB1 := Lib.hid hb1
  have HN := Lib.hid hq
  clear hq hb1
  go_loopw [10] (fun i wr => ∃ k : Nat, k ≤ 25 ∧ i = .int .i64 k ∧ Hid (Bool25 wr W.heap.size (fun j => decide (j < k) && aft l size opened found j)) ∧ Hid (Below W.heap.size W wr)) (fun i _ => 25 - (intOf i).toNat)
  case atStart => exact ⟨0, by omega, rfl, Lib.hid (HN.out.congr (fun j _ => by simp)), HB1⟩
  case round =>
    obtain ⟨k, hk, rfl, hz, hbw⟩ := hrel
    by_cases hlt : k < 25
    · have hk0 : (0 : Int) ≤ (k : Int) := by omega
      have hk25 : (k : Int) < 25 := by omega
      have c0 := cell_same (hbw.out.block b hlt0) (HQ.out.1 k hlt)
      have z0 := hz.out.1 k hlt
      have fz := hz.out.2 k
      have ew1 : IntKind.i64.wrap (opened - found) = opened - found := IntWalk.i64_in _ (by omega)
      have ew2 : IntKind.i64.wrap (size - (k : Int)) = size - (k : Int) := IntWalk.i64_in _ (by omega)
      have hnew : ∀ v, v = aft l size opened found k → Hid (Bool25 (wr.setCell ⟨W.heap.size, k, none⟩ (.bool v)) W.heap.size (fun j => decide (j < k + 1) && aft l size opened found j)) := fun v hv => Lib.hid ((hz.out.set k v).congr (fun j _ => by
        by_cases e : j = k
        · subst e; rw [if_pos rfl, hv]; simp
        · rw [if_neg e]
          have : (j < k + 1) = (j < k) := by apply propext; omega
          simp only [this]))
      have HNEW := Lib.hid hnew
      have HB2 : Hid (∀ v, Below W.heap.size W (wr.setCell ⟨W.heap.size, k, none⟩ (.bool v))) := Lib.hid (fun v => hbw.out.setCell (Nat.le_refl _) _)
      clear hnew
      cases hl : l k with
      | false =>
        have HV : Hid (aft l size opened found k = false) := Lib.hid (by simp [aft, hl])
        rw [hl] at c0
        go_wp2_with fail
        go_roundw
        case rel => exact ⟨k + 1, by omega, by go_num, HNEW.out _ HV.out.symm, HB2.out _⟩
        case measure => simp [intOf]; omega
      | true =>
        rw [hl] at c0
        by_cases j1 : found ≤ (k : Int)
        · have HV : Hid (aft l size opened found k = decide (opened - found ≤ size - (k : Int))) := Lib.hid (by simp [aft, hl, j1])
          go_wp2_with fail
          go_roundw
          case rel => exact ⟨k + 1, by omega, by go_num, HNEW.out _ HV.out.symm, HB2.out _⟩
          case measure => simp [intOf]; omega
        · have HV : Hid (aft l size opened found k = false) := Lib.hid (by simp [aft, hl, j1])
          go_wp2_with fail
          go_roundw
          case rel => exact ⟨k + 1, by omega, by go_num, HNEW.out _ HV.out.symm, HB2.out _⟩
          case measure => simp [intOf]; omega
    · have hge : ¬ (k : Int) < 25 := by omega
      have HZ : Hid (Bool25 wr W.heap.size (aft l size opened found)) := Lib.hid (hz.out.congr (fun j hj => by simp; omega))
      go_wp2_with fail
      go_ret
      exact ⟨⟨_, rfl, HZ.out⟩, hbw.out⟩

/-- which numbers a sample leaves, between two ends -/
theorem aft_ends {l : Nat → Bool} {a b size opened found : Int} (hl : ∀ j : Nat, l j = true ↔ a ≤ j ∧ (j : Int) ≤ b) : ∀ j : Nat, aft l size opened found j = true ↔ max a found ≤ j ∧ (j : Int) ≤ min b (size - opened + found) := fun j => by
  rw [aft_iff, hl]
  omega
theorem tr_left {st : St} (hst : st.ok) {X : Nat → Int} (hX : ∀ k, k < st.n → 0 ≤ X k ∧ X k ≤ (st.P k).s) {opened found : Int} (ho : 0 ≤ opened ∧ opened ≤ (bagOf X st.n).size) (hf : 0 ≤ found ∧ found ≤ opened) :
    eS ((25 : Nat) : Int) (aft (st.tr X (-1) 0 st.n) (bagOf X st.n).size opened found) 25 = if st.leftHi (bagOf X st.n) opened found < st.leftLo (bagOf X st.n) found then (25, -1) else (st.leftLo (bagOf X st.n) found, st.leftHi (bagOf X st.n) opened found) := by
  have n4 := hst.n4
  have hin := rng_in hst hX
  have h1 := St.lo_bd hst hin
  have h2 := St.hi_bd hst hin
  have hsz := St.size_bd hst hin
  have e1 : sumN (st.tlo X (-1) 0) st.n = st.lo (bagOf X st.n) := sumN_congr (fun k hk => by
    unfold St.tlo; rw [if_neg (by omega), bagOf_at hk (by omega)])
  have e2 : sumN (st.thi X (-1) 0) st.n = st.hi (bagOf X st.n) := sumN_congr (fun k hk => by
    unfold St.thi; rw [if_neg (by omega), bagOf_at hk (by omega)])
  have h3 := St.tr_iff hst.pk hst.sp hX (pick := -1) (F := 0) (fun k _ h => by omega) st.n (Nat.le_refl _)
  rw [e1, e2] at h3
  have h4 := aft_ends (size := (bagOf X st.n).size) (opened := opened) (found := found) h3
  unfold St.leftHi St.leftLo
  by_cases h5 : min (st.hi (bagOf X st.n)) ((bagOf X st.n).size - opened + found) < max (st.lo (bagOf X st.n)) found
  · rw [if_pos h5]
    exact eS_no (len := 25) (by omega) h5 (fun j _ => h4 j)
  · rw [if_neg h5]
    exact eS_all (len := 25) (by omega) (by omega) (by omega) (fun j _ => h4 j)

set_option maxRecDepth 100000 in
set_option maxHeartbeats 2000000 in
theorem rLeft_any (st : St) (B : Nat) (pA gA : Option Addr) (pc gc : Nat) (lA : Option Addr) (ln lc : Nat) (X : Nat → Int) (opened found : Int) (W : World) (hs : StRow W B st pA pc gA gc) (hl : IntRow W W.heap.size lA ln X) (hn : ln ≤ 1000) :
    Calls Try.prog 30 #[stV pA st.n pc gA st.m gc st.lots, .slice lA ln lc, .int .i64 opened, .int .i64 found] W fun e W' => e = .returned (spV (st.leftR ln X opened found)) ∧ Below W.heap.size W W' := by
  have HS := Lib.hid hs; have HL := Lib.hid hl; have hB := hs.lt; clear hs hl
  go_enter Try.func30, Try.ntmps30
  go_wp2_with fail
  refine (rLot_any st B pA gA pc gc lA ln lc X _ (HS.out.later (by repeat (first | (with_reducible exact Below.refl _ _) | (with_reducible refine Below.drew ?_) | (with_reducible refine below_drewN ?_ _) | ((with_reducible refine below_alloc ?_ ?_ _); · (first | exact Nat.le_refl _ | omega | (simp; done) | (simp; omega) | (simp at *; omega))) | ((with_reducible refine below_set ?_ ?_ _); · (first | exact Nat.le_refl _ | omega | (simp; done) | (simp; omega) | (simp at *; omega))) | ((with_reducible refine below_via (by with_reducible assumption) ?_ ?_); · (first | exact Nat.le_refl _ | omega | (simp; done) | (simp; omega) | (simp at *; omega)))))) (HL.out.later (by repeat (first | (with_reducible exact Below.refl _ _) | (with_reducible refine Below.drew ?_) | (with_reducible refine below_drewN ?_ _) | ((with_reducible refine below_alloc ?_ ?_ _); · (first | exact Nat.le_refl _ | omega | (simp; done) | (simp; omega) | (simp at *; omega))) | ((with_reducible refine below_set ?_ ?_ _); · (first | exact Nat.le_refl _ | omega | (simp; done) | (simp; omega) | (simp at *; omega))) | ((with_reducible refine below_via (by with_reducible assumption) ?_ ?_); · (first | exact Nat.le_refl _ | omega | (simp; done) | (simp; omega) | (simp at *; omega)))))) hn).mono ?_; rintro e w1 ⟨rfl, hb1⟩; have HB1 := Lib.hid (show Below W.heap.size W w1 from (by repeat (first | (with_reducible exact Below.refl _ _) | (with_reducible refine Below.drew ?_) | (with_reducible refine below_drewN ?_ _) | ((with_reducible refine below_alloc ?_ ?_ _); · (first | exact Nat.le_refl _ | omega | (simp; done) | (simp; omega) | (simp at *; omega))) | ((with_reducible refine below_set ?_ ?_ _); · (first | exact Nat.le_refl _ | omega | (simp; done) | (simp; omega) | (simp at *; omega))) | ((with_reducible refine below_via (by with_reducible assumption) ?_ ?_); · (first | exact Nat.le_refl _ | omega | (simp; done) | (simp; omega) | (simp at *; omega)))))); have hs1 := hb1.size; simp only [World.size_alloc] at hs1; have HA := Lib.hid (show w1.cell? ⟨W.heap.size, 0, none⟩ = some (.slice pA st.n pc) ∧ w1.cell? ⟨W.heap.size, 1, none⟩ = some (.slice gA st.m gc) ∧ w1.cell? ⟨W.heap.size, 2, none⟩ = some (.int .i64 st.lots) from ⟨cell_below_of hb1 (by (repeat' refine And.intro ?_ ?_) <;> (repeat (first | (with_reducible assumption) | (simp; done) | (with_reducible refine cell_drew_of ?_) | (with_reducible refine cell_drewN_of ?_) | (with_reducible refine cell_below_of (by with_reducible assumption) ?_) | ((with_reducible refine cell_new_of ?_ ?_) <;> (first | (with_reducible rfl) | (simp; done))) | ((with_reducible refine fro_new_of ?_) <;> (first | (with_reducible rfl) | (simp; done))) | (with_reducible refine cell_alloc_of _ ?_) | (with_reducible refine cell_set_of _ (by (first | exact Nat.le_refl _ | omega | (simp; done) | (simp; omega))) ?_) | (with_reducible refine fro_drew_of ?_) | (with_reducible refine fro_drewN_of ?_) | (with_reducible refine fro_below_of (by with_reducible assumption) (by (first | exact Nat.le_refl _ | omega | (simp; done) | (simp; omega))) ?_) | (with_reducible refine fro_alloc_of _ (by (first | exact Nat.le_refl _ | omega | (simp; done) | (simp; omega))) ?_) | (with_reducible refine fro_set_of _ ?_)))), cell_below_of hb1 (by (repeat' refine And.intro ?_ ?_) <;> (repeat (first | (with_reducible assumption) | (simp; done) | (with_reducible refine cell_drew_of ?_) | (with_reducible refine cell_drewN_of ?_) | (with_reducible refine cell_below_of (by with_reducible assumption) ?_) | ((with_reducible refine cell_new_of ?_ ?_) <;> (first | (with_reducible rfl) | (simp; done))) | ((with_reducible refine fro_new_of ?_) <;> (first | (with_reducible rfl) | (simp; done))) | (with_reducible refine cell_alloc_of _ ?_) | (with_reducible refine cell_set_of _ (by (first | exact Nat.le_refl _ | omega | (simp; done) | (simp; omega))) ?_) | (with_reducible refine fro_drew_of ?_) | (with_reducible refine fro_drewN_of ?_) | (with_reducible refine fro_below_of (by with_reducible assumption) (by (first | exact Nat.le_refl _ | omega | (simp; done) | (simp; omega))) ?_) | (with_reducible refine fro_alloc_of _ (by (first | exact Nat.le_refl _ | omega | (simp; done) | (simp; omega))) ?_) | (with_reducible refine fro_set_of _ ?_)))), cell_below_of hb1 (by (repeat' refine And.intro ?_ ?_) <;> (repeat (first | (with_reducible assumption) | (simp; done) | (with_reducible refine cell_drew_of ?_) | (with_reducible refine cell_drewN_of ?_) | (with_reducible refine cell_below_of (by with_reducible assumption) ?_) | ((with_reducible refine cell_new_of ?_ ?_) <;> (first | (with_reducible rfl) | (simp; done))) | ((with_reducible refine fro_new_of ?_) <;> (first | (with_reducible rfl) | (simp; done))) | (with_reducible refine cell_alloc_of _ ?_) | (with_reducible refine cell_set_of _ (by (first | exact Nat.le_refl _ | omega | (simp; done) | (simp; omega))) ?_) | (with_reducible refine fro_drew_of ?_) | (with_reducible refine fro_drewN_of ?_) | (with_reducible refine fro_below_of (by with_reducible assumption) (by (first | exact Nat.le_refl _ | omega | (simp; done) | (simp; omega))) ?_) | (with_reducible refine fro_alloc_of _ (by (first | exact Nat.le_refl _ | omega | (simp; done) | (simp; omega))) ?_) | (with_reducible refine fro_set_of _ ?_))))⟩)
  have hz1 := Lib.hid (show Z2 w1 (W.heap.size + 1) from (show Z2 ((W.alloc (.cells #[.slice pA st.n pc, .slice gA st.m gc, .int .i64 st.lots] 34)).alloc (.cells #[.int .i64 0, .int .i64 0] 50)) (W.heap.size + 1) from (by (repeat' refine And.intro ?_ ?_) <;> (repeat (first | (with_reducible assumption) | (simp; done) | (with_reducible refine cell_drew_of ?_) | (with_reducible refine cell_drewN_of ?_) | (with_reducible refine cell_below_of (by with_reducible assumption) ?_) | ((with_reducible refine cell_new_of ?_ ?_) <;> (first | (with_reducible rfl) | (simp; done))) | ((with_reducible refine fro_new_of ?_) <;> (first | (with_reducible rfl) | (simp; done))) | (with_reducible refine cell_alloc_of _ ?_) | (with_reducible refine cell_set_of _ (by (first | exact Nat.le_refl _ | omega | (simp; done) | (simp; omega))) ?_) | (with_reducible refine fro_drew_of ?_) | (with_reducible refine fro_drewN_of ?_) | (with_reducible refine fro_below_of (by with_reducible assumption) (by (first | exact Nat.le_refl _ | omega | (simp; done) | (simp; omega))) ?_) | (with_reducible refine fro_alloc_of _ (by (first | exact Nat.le_refl _ | omega | (simp; done) | (simp; omega))) ?_) | (with_reducible refine fro_set_of _ ?_))))).later hb1)
  clear hb1
  by_cases h0 : st.askErr ln X = 0
  · have hnb : (st.askErr ln X != 0) = false := by simpa using h0
    have HE0 : Hid (st.sampErr ln X opened found = if inB opened 0 (bagOf X ln).size = false ∨ inB found 0 opened = false then 4
        else if st.leftHi (bagOf X ln) opened found < st.leftLo (bagOf X ln) found then 7 else 0) := Lib.hid (by unfold St.sampErr; rw [if_neg (by simp [h0])])
    have HST := Lib.hid (St.askErr_ok h0).1; have HX := Lib.hid (ask_rng h0); obtain rfl : ln = st.n := (St.askErr_ok h0).2.2
    obtain ⟨a0, a1, a2⟩ := HA.out
    have hs1' := HB1.out.size
    clear h0
    by_cases hno : inB opened 0 (bagOf X st.n).size = false ∨ inB found 0 opened = false
    · have HR : Hid (st.leftR st.n X opened found = (0, 0, 4)) := Lib.hid (by unfold St.leftR; rw [HE0.out, if_pos hno]; rfl)
      obtain ⟨⟨b0, b1⟩, f0, f1⟩ := hz1.out
      have q := ((show N2At w1 (W.heap.size + 1) 0 0 from hz1.out).set0 0).set1 0
      have hbo := HB1.out
      have hqb := Lib.hid (show Below W.heap.size W ((w1.setCell ⟨W.heap.size + 1, 0, none⟩ (.int .i64 0)).setCell ⟨W.heap.size + 1, 1, none⟩ (.int .i64 0)) from (by repeat (first | (with_reducible exact Below.refl _ _) | (with_reducible refine Below.drew ?_) | (with_reducible refine below_drewN ?_ _) | ((with_reducible refine below_alloc ?_ ?_ _); · (first | exact Nat.le_refl _ | omega | (simp; done) | (simp; omega) | (simp at *; omega))) | ((with_reducible refine below_set ?_ ?_ _); · (first | exact Nat.le_refl _ | omega | (simp; done) | (simp; omega) | (simp at *; omega))) | ((with_reducible refine below_via (by with_reducible assumption) ?_ ?_); · (first | exact Nat.le_refl _ | omega | (simp; done) | (simp; omega) | (simp at *; omega))))))
      clear hbo
      cases j1 : inB opened 0 (bagOf X st.n).size with
      | false =>
        go_wp2_with (first | (go_at_call 86; refine (rsize_any lA st.n lc X _ (HL.out.later HB1.out) (by have := HST.out.n4; omega) (fun k hk => by have := HX.out k hk; have := (HST.out.pk k hk).1; omega)).mono ?_; rintro e w' ⟨rfl, rfl⟩; rw [← bagOf_size HST.out.n4]) | (go_at_call 82; refine (off_any _ _ _ _).mono ?_; rintro e w' ⟨rfl, rfl⟩))
        obtain ⟨⟨q0, q1⟩, _⟩ := q
        exact bodyPost_ret (v := spV (0, 0, 4)) (by simp [results, Try.results30, go_sem, q0, q1]) rfl ⟨by rw [HR.out], hqb.out⟩
      | true =>
        have j2 : inB found 0 opened = false := by rcases hno with h | h; rw [j1] at h; cases h; exact h
        go_wp2_with (first | (go_at_call 86; refine (rsize_any lA st.n lc X _ (HL.out.later HB1.out) (by have := HST.out.n4; omega) (fun k hk => by have := HX.out k hk; have := (HST.out.pk k hk).1; omega)).mono ?_; rintro e w' ⟨rfl, rfl⟩; rw [← bagOf_size HST.out.n4]) | (go_at_call 82; refine (off_any _ _ _ _).mono ?_; rintro e w' ⟨rfl, rfl⟩))
        obtain ⟨⟨q0, q1⟩, _⟩ := q
        exact bodyPost_ret (v := spV (0, 0, 4)) (by simp [results, Try.results30, go_sem, q0, q1]) rfl ⟨by rw [HR.out], hqb.out⟩
    · have HE1 : Hid (st.sampErr st.n X opened found = if st.leftHi (bagOf X st.n) opened found < st.leftLo (bagOf X st.n) found then 7 else 0) := Lib.hid (by rw [HE0.out, if_neg hno])
      simp only [not_or, Bool.not_eq_false] at hno
      obtain ⟨j1, j2⟩ := hno
      have hop : 0 ≤ opened ∧ opened ≤ (bagOf X st.n).size := by simpa [inB] using j1
      have hfo : 0 ≤ found ∧ found ≤ opened := by simpa [inB] using j2
      have bd2 := St.size_bd HST.out (rng_in HST.out HX.out)
      have HT := Lib.hid (tr_left HST.out HX.out hop hfo)
      go_wp2_with (first | (go_at_call 86; refine (rsize_any lA st.n lc X _ (HL.out.later HB1.out) (by have := HST.out.n4; omega) (fun k hk => by have := HX.out k hk; have := (HST.out.pk k hk).1; omega)).mono ?_; rintro e w' ⟨rfl, rfl⟩; rw [← bagOf_size HST.out.n4]) | (go_at_call 82; refine (off_any _ _ _ _).mono ?_; rintro e w' ⟨rfl, rfl⟩))
      refine (truths_any st HST.out B pA gA pc gc lA lc X (-1) 0 _ (HS.out.later (HB1.out.mono hB)) (HL.out.later HB1.out) HX.out).mono ?_
      rintro e w2 ⟨⟨b2, rfl, hbl, hq⟩, hb2⟩
      have HB2 := Lib.hid (HB1.out.trans (hb2.mono hs1'))
      have hs2 := hb2.size
      have hz2 := Lib.hid (hz1.out.later hb2)
      have HQ := Lib.hid hq
      clear hb2 hq hbl a0 a1 a2
      go_wp2_with fail
      refine (rsize_any lA st.n lc X _ (HL.out.later HB2.out) (by have := HST.out.n4; omega) (fun k hk => by have := HX.out k hk; have := (HST.out.pk k hk).1; omega)).mono ?_
      rintro e w' ⟨rfl, rfl⟩
      rw [← bagOf_size HST.out.n4]
      go_wp2_with fail
      refine (after_any b2 _ (bagOf X st.n).size opened found _ HQ.out (by omega) (by omega) (by omega)).mono ?_
      rintro e w3 ⟨⟨b3, rfl, hq3⟩, hb3⟩
      have hs3 := hb3.size
      have hz3 := Lib.hid (hz2.out.later hb3)
      have HB3 := Lib.hid (HB2.out.trans (hb3.mono (by omega)))
      have HQ3 := Lib.hid hq3
      clear hb3 hq3
      go_wp2_with fail
      refine (rends_any (some ⟨b3, 0, none⟩) 25 25 _ _ HQ3.out.row (by decide)).mono ?_
      rintro e w4 ⟨rfl, hb4⟩
      have hs4 := hb4.size
      have hz4 := Lib.hid (hz3.out.later hb4)
      have HB4 := Lib.hid (HB3.out.trans (hb4.mono (by omega)))
      rw [HT.out]
      clear hb4
      have bdl : 0 ≤ st.leftLo (bagOf X st.n) found := by unfold St.leftLo; omega
      by_cases hlt : st.leftHi (bagOf X st.n) opened found < st.leftLo (bagOf X st.n) found
      · rw [if_pos hlt]
        have HR : Hid (st.leftR st.n X opened found = (0, 0, 7)) := Lib.hid (by unfold St.leftR; rw [HE1.out, if_pos hlt]; rfl)
        obtain ⟨⟨b0, b1⟩, f0, f1⟩ := hz4.out
        have hz5 : Z2 (w4.alloc (.cells #[.int .i64 25, .int .i64 (-1)] 50)) (W.heap.size + 1) := hz4.out.later (by repeat (first | (with_reducible exact Below.refl _ _) | (with_reducible refine Below.drew ?_) | (with_reducible refine below_drewN ?_ _) | ((with_reducible refine below_alloc ?_ ?_ _); · (first | exact Nat.le_refl _ | omega | (simp; done) | (simp; omega) | (simp at *; omega))) | ((with_reducible refine below_set ?_ ?_ _); · (first | exact Nat.le_refl _ | omega | (simp; done) | (simp; omega) | (simp at *; omega))) | ((with_reducible refine below_via (by with_reducible assumption) ?_ ?_); · (first | exact Nat.le_refl _ | omega | (simp; done) | (simp; omega) | (simp at *; omega)))))
        have q := ((show N2At (w4.alloc (.cells #[.int .i64 25, .int .i64 (-1)] 50)) (W.heap.size + 1) 0 0 from hz5).set0 0).set1 0
        have hbo := HB4.out
        have hqb := Lib.hid (show Below W.heap.size W (((w4.alloc (.cells #[.int .i64 25, .int .i64 (-1)] 50)).setCell ⟨W.heap.size + 1, 0, none⟩ (.int .i64 0)).setCell ⟨W.heap.size + 1, 1, none⟩ (.int .i64 0)) from (by repeat (first | (with_reducible exact Below.refl _ _) | (with_reducible refine Below.drew ?_) | (with_reducible refine below_drewN ?_ _) | ((with_reducible refine below_alloc ?_ ?_ _); · (first | exact Nat.le_refl _ | omega | (simp; done) | (simp; omega) | (simp at *; omega))) | ((with_reducible refine below_set ?_ ?_ _); · (first | exact Nat.le_refl _ | omega | (simp; done) | (simp; omega) | (simp at *; omega))) | ((with_reducible refine below_via (by with_reducible assumption) ?_ ?_); · (first | exact Nat.le_refl _ | omega | (simp; done) | (simp; omega) | (simp at *; omega))))))
        clear hbo hlt hz5
        go_wp2_with fail
        obtain ⟨⟨q0, q1⟩, _⟩ := q
        exact bodyPost_ret (v := spV (0, 0, 7)) (by simp [results, Try.results30, go_sem, q0, q1]) rfl ⟨by rw [HR.out], hqb.out⟩
      · rw [if_neg hlt]
        have HR : Hid (st.leftR st.n X opened found = (st.leftLo (bagOf X st.n) found, st.leftHi (bagOf X st.n) opened found, 0)) := Lib.hid (by unfold St.leftR; rw [HE1.out, if_neg hlt]; rfl)
        have hge : ¬ st.leftHi (bagOf X st.n) opened found < 0 := by omega
        generalize st.leftHi (bagOf X st.n) opened found = LH at hlt HR hge ⊢
        generalize st.leftLo (bagOf X st.n) found = LL at hlt HR bdl ⊢
        obtain ⟨⟨b0, b1⟩, f0, f1⟩ := hz4.out
        have hz5 : Z2 (w4.alloc (.cells #[.int .i64 LL, .int .i64 LH] 50)) (W.heap.size + 1) := hz4.out.later (by repeat (first | (with_reducible exact Below.refl _ _) | (with_reducible refine Below.drew ?_) | (with_reducible refine below_drewN ?_ _) | ((with_reducible refine below_alloc ?_ ?_ _); · (first | exact Nat.le_refl _ | omega | (simp; done) | (simp; omega) | (simp at *; omega))) | ((with_reducible refine below_set ?_ ?_ _); · (first | exact Nat.le_refl _ | omega | (simp; done) | (simp; omega) | (simp at *; omega))) | ((with_reducible refine below_via (by with_reducible assumption) ?_ ?_); · (first | exact Nat.le_refl _ | omega | (simp; done) | (simp; omega) | (simp at *; omega)))))
        have q := ((show N2At (w4.alloc (.cells #[.int .i64 LL, .int .i64 LH] 50)) (W.heap.size + 1) 0 0 from hz5).set0 LL).set1 LH
        have hbo := HB4.out
        have hqb := Lib.hid (show Below W.heap.size W (((w4.alloc (.cells #[.int .i64 LL, .int .i64 LH] 50)).setCell ⟨W.heap.size + 1, 0, none⟩ (.int .i64 LL)).setCell ⟨W.heap.size + 1, 1, none⟩ (.int .i64 LH)) from (by repeat (first | (with_reducible exact Below.refl _ _) | (with_reducible refine Below.drew ?_) | (with_reducible refine below_drewN ?_ _) | ((with_reducible refine below_alloc ?_ ?_ _); · (first | exact Nat.le_refl _ | omega | (simp; done) | (simp; omega) | (simp at *; omega))) | ((with_reducible refine below_set ?_ ?_ _); · (first | exact Nat.le_refl _ | omega | (simp; done) | (simp; omega) | (simp at *; omega))) | ((with_reducible refine below_via (by with_reducible assumption) ?_ ?_); · (first | exact Nat.le_refl _ | omega | (simp; done) | (simp; omega) | (simp at *; omega))))))
        clear hbo hlt hz5
        go_wp2_with fail
        obtain ⟨⟨q0, q1⟩, _⟩ := q
        exact bodyPost_ret (v := spV (LL, LH, 0)) (by simp [results, Try.results30, go_sem, q0, q1]) rfl ⟨by rw [HR.out], hqb.out⟩
  · have hnb : (st.askErr ln X != 0) = true := by simpa using h0
    have HR : Hid (st.leftR ln X opened found = (0, 0, st.askErr ln X)) := Lib.hid (by
      have : st.sampErr ln X opened found = st.askErr ln X := by unfold St.sampErr; rw [if_pos (by simpa using h0)]
      unfold St.leftR; rw [this, if_pos (by simpa using h0)])
    obtain ⟨⟨b0, b1⟩, f0, f1⟩ := hz1.out
    have q := ((show N2At w1 (W.heap.size + 1) 0 0 from hz1.out).set0 0).set1 0
    have hbo := HB1.out
    have hqb := Lib.hid (show Below W.heap.size W ((w1.setCell ⟨W.heap.size + 1, 0, none⟩ (.int .i64 0)).setCell ⟨W.heap.size + 1, 1, none⟩ (.int .i64 0)) from (by repeat (first | (with_reducible exact Below.refl _ _) | (with_reducible refine Below.drew ?_) | (with_reducible refine below_drewN ?_ _) | ((with_reducible refine below_alloc ?_ ?_ _); · (first | exact Nat.le_refl _ | omega | (simp; done) | (simp; omega) | (simp at *; omega))) | ((with_reducible refine below_set ?_ ?_ _); · (first | exact Nat.le_refl _ | omega | (simp; done) | (simp; omega) | (simp at *; omega))) | ((with_reducible refine below_via (by with_reducible assumption) ?_ ?_); · (first | exact Nat.le_refl _ | omega | (simp; done) | (simp; omega) | (simp at *; omega))))))
    clear h0 hbo
    go_wp2_with fail
    obtain ⟨⟨q0, q1⟩, _⟩ := q
    exact bodyPost_ret (v := spV (0, 0, st.askErr ln X)) (by simp [results, Try.results30, go_sem, q0, q1]) rfl ⟨by rw [HR.out], hqb.out⟩
end Go.Proofs.Ytegmomappbehcaa
