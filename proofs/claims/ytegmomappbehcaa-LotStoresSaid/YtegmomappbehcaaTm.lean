/- The reference: Foul. -/
import Derived.Test.YtegmomappbehcaaTe
set_option linter.unusedSimpArgs false
set_option linter.unusedVariables false
namespace Go.Proofs.Ytegmomappbehcaa
open Go.RowKit Go.Shelf

set_option maxRecDepth 100000 in
set_option maxHeartbeats 2000000 in
theorem rFoul_any (st : St) (B : Nat) (pA gA : Option Addr) (pc gc : Nat) (p : Int) (W : World) (hs : StRow W B st pA pc gA gc) :
    Calls Try.prog 55 #[stV pA st.n pc gA st.m gc st.lots, .int .i64 p] W fun e W' => e = .returned (spV (st.foulR p)) ∧ Below W.heap.size W W' := by
  have HS := Lib.hid hs
  have hB := hs.lt
  have hn := hs.n
  clear hs
  go_enter Try.func55, Try.ntmps55
  go_wp2_with fail
  refine (rcheck_any st B pA gA pc gc _ (HS.out.later (by repeat (first | (with_reducible exact Below.refl _ _) | (with_reducible refine Below.drew ?_) | (with_reducible refine below_drewN ?_ _) | ((with_reducible refine below_alloc ?_ ?_ _); · (first | exact Nat.le_refl _ | omega | (simp; done) | (simp; omega) | (simp at *; omega))) | ((with_reducible refine below_set ?_ ?_ _); · (first | exact Nat.le_refl _ | omega | (simp; done) | (simp; omega) | (simp at *; omega))) | ((with_reducible refine below_via (by with_reducible assumption) ?_ ?_); · (first | exact Nat.le_refl _ | omega | (simp; done) | (simp; omega) | (simp at *; omega))))))).mono ?_
  rintro e w1 ⟨rfl, hb1⟩
  have HB1 := Lib.hid (show Below W.heap.size W w1 from (by repeat (first | (with_reducible exact Below.refl _ _) | (with_reducible refine Below.drew ?_) | (with_reducible refine below_drewN ?_ _) | ((with_reducible refine below_alloc ?_ ?_ _); · (first | exact Nat.le_refl _ | omega | (simp; done) | (simp; omega) | (simp at *; omega))) | ((with_reducible refine below_set ?_ ?_ _); · (first | exact Nat.le_refl _ | omega | (simp; done) | (simp; omega) | (simp at *; omega))) | ((with_reducible refine below_via (by with_reducible assumption) ?_ ?_); · (first | exact Nat.le_refl _ | omega | (simp; done) | (simp; omega) | (simp at *; omega))))))
  have hs1 := hb1.size
  simp only [World.size_alloc] at hs1
  have a0 : w1.cell? ⟨W.heap.size, 0, none⟩ = some (.slice pA st.n pc) := cell_below_of hb1 (by (repeat' refine And.intro ?_ ?_) <;> (repeat (first | (with_reducible assumption) | (simp; done) | (with_reducible refine cell_drew_of ?_) | (with_reducible refine cell_drewN_of ?_) | (with_reducible refine cell_below_of (by with_reducible assumption) ?_) | ((with_reducible refine cell_new_of ?_ ?_) <;> (first | (with_reducible rfl) | (simp; done))) | ((with_reducible refine fro_new_of ?_) <;> (first | (with_reducible rfl) | (simp; done))) | (with_reducible refine cell_alloc_of _ ?_) | (with_reducible refine cell_set_of _ (by (first | exact Nat.le_refl _ | omega | (simp; done) | (simp; omega))) ?_) | (with_reducible refine fro_drew_of ?_) | (with_reducible refine fro_drewN_of ?_) | (with_reducible refine fro_below_of (by with_reducible assumption) (by (first | exact Nat.le_refl _ | omega | (simp; done) | (simp; omega))) ?_) | (with_reducible refine fro_alloc_of _ (by (first | exact Nat.le_refl _ | omega | (simp; done) | (simp; omega))) ?_) | (with_reducible refine fro_set_of _ ?_))))
  have hz1 := Lib.hid (show Z2 w1 (W.heap.size + 1) from (show Z2 ((W.alloc (.cells #[.slice pA st.n pc, .slice gA st.m gc, .int .i64 st.lots] 34)).alloc (.cells #[.int .i64 0, .int .i64 0] 50)) (W.heap.size + 1) from (by (repeat' refine And.intro ?_ ?_) <;> (repeat (first | (with_reducible assumption) | (simp; done) | (with_reducible refine cell_drew_of ?_) | (with_reducible refine cell_drewN_of ?_) | (with_reducible refine cell_below_of (by with_reducible assumption) ?_) | ((with_reducible refine cell_new_of ?_ ?_) <;> (first | (with_reducible rfl) | (simp; done))) | ((with_reducible refine fro_new_of ?_) <;> (first | (with_reducible rfl) | (simp; done))) | (with_reducible refine cell_alloc_of _ ?_) | (with_reducible refine cell_set_of _ (by (first | exact Nat.le_refl _ | omega | (simp; done) | (simp; omega))) ?_) | (with_reducible refine fro_drew_of ?_) | (with_reducible refine fro_drewN_of ?_) | (with_reducible refine fro_below_of (by with_reducible assumption) (by (first | exact Nat.le_refl _ | omega | (simp; done) | (simp; omega))) ?_) | (with_reducible refine fro_alloc_of _ (by (first | exact Nat.le_refl _ | omega | (simp; done) | (simp; omega))) ?_) | (with_reducible refine fro_set_of _ ?_))))).later hb1)
  clear hb1
  by_cases h0 : st.check = 0
  · have hnb : (st.check != 0) = false := by simpa using h0
    have HO := Lib.hid (St.check_ok.1 h0)
    have hR0 : Hid (st.foulR p = if inB p 0 (st.n - 1) = false then (0, 0, 2) else ((st.P p.toNat).f, (st.P p.toNat).hi, 0)) := Lib.hid (by unfold St.foulR; rw [if_neg (by simp [h0])])
    have n1 := HO.out.n1
    have ew1 : IntKind.i64.wrap ((st.n : Int) - 1) = (st.n : Int) - 1 := IntWalk.i64_in _ (by omega)
    clear h0
    cases hp : inB p 0 ((st.n : Int) - 1) with
    | false =>
      have HR : Hid (st.foulR p = (0, 0, 2)) := Lib.hid (by rw [hR0.out, if_pos hp])
      obtain ⟨⟨b0, b1⟩, f0, f1⟩ := hz1.out
      have q := ((show N2At w1 (W.heap.size + 1) 0 0 from hz1.out).set0 0).set1 0
      have hbo := HB1.out
      have hqb := Lib.hid (show Below W.heap.size W ((w1.setCell ⟨W.heap.size + 1, 0, none⟩ (.int .i64 0)).setCell ⟨W.heap.size + 1, 1, none⟩ (.int .i64 0)) from (by repeat (first | (with_reducible exact Below.refl _ _) | (with_reducible refine Below.drew ?_) | (with_reducible refine below_drewN ?_ _) | ((with_reducible refine below_alloc ?_ ?_ _); · (first | exact Nat.le_refl _ | omega | (simp; done) | (simp; omega) | (simp at *; omega))) | ((with_reducible refine below_set ?_ ?_ _); · (first | exact Nat.le_refl _ | omega | (simp; done) | (simp; omega) | (simp at *; omega))) | ((with_reducible refine below_via (by with_reducible assumption) ?_ ?_); · (first | exact Nat.le_refl _ | omega | (simp; done) | (simp; omega) | (simp at *; omega))))))
      clear hbo
      go_wp2_with (go_at_call 82; refine (off_any _ _ _ _).mono ?_; rintro e w' ⟨rfl, rfl⟩)
      obtain ⟨⟨q0, q1⟩, _⟩ := q
      exact bodyPost_ret (v := spV (0, 0, 2)) (by simp [results, Try.results55, go_sem, q0, q1]) rfl ⟨by rw [HR.out], hqb.out⟩
    | true =>
      have hp2 : 0 ≤ p ∧ p ≤ (st.n : Int) - 1 := by simpa [inB] using hp
      obtain ⟨pi, rfl⟩ := Int.eq_ofNat_of_zero_le hp2.1
      have hpn : pi < st.n := by omega
      have hp0 : (0 : Int) ≤ (pi : Int) := by omega
      have hpi : (pi : Int) < (st.n : Int) := by omega
      have HR : Hid (st.foulR pi = ((st.P pi).f, (st.P pi).hi, 0)) := Lib.hid (by rw [hR0.out, if_neg (by rw [hp]; decide), Int.toNat_natCast])
      have hrng := Lib.hid (HO.out.pk pi hpn)
      have hsp := HO.out.sp pi hpn
      obtain ⟨b, o, rfl, hbl, c0, c1, c2, c3⟩ := (HS.out.p.below (HB1.out.mono hB)) pi hpn
      go_wp2_with (go_at_call 82; refine (off_any _ _ _ _).mono ?_; rintro e w' ⟨rfl, rfl⟩)
      refine (fouls_any (st.P pi) hrng.out _).mono ?_
      rintro e w2 ⟨⟨fA, fc, rfl, hr, hfc, _⟩, hb2⟩
      have HB2 := Lib.hid (HB1.out.trans (hb2.mono (by omega)))
      have hs2 := hb2.size
      have hz2 := Lib.hid (hz1.out.later hb2)
      have hcp : 0 < (st.P pi).cnt ∧ ((st.P pi).cnt : Int) = (st.P pi).hi - (st.P pi).f + 1 := by unfold Pk.cnt; omega
      have hc7 : (st.P pi).cnt ≤ 7 := by
        have h1 := hrng.out
        unfold Pk.rng at h1
        unfold Pk.cnt Pk.hi
        omega
      obtain ⟨m, hm⟩ : ∃ m, (st.P pi).cnt = m + 1 := ⟨(st.P pi).cnt - 1, by omega⟩
      rw [hm] at hr hcp hc7 hfc ⊢
      clear hm
      obtain ⟨fb, fo, rfl, hfl, d0⟩ := hr 0 (by omega)
      obtain ⟨fb', fo', hA, _, d1⟩ := hr m (by omega)
      injection hA with hA
      injection hA with e1 e2
      subst e1 e2
      have e3 : (st.P pi).f + (m : Int) = (st.P pi).hi := by omega
      simp only [e3] at d1
      have d0' : w2.cell? ⟨fb, fo, none⟩ = some (.int .i64 (st.P pi).f) := by simpa using d0
      have ewc : IntKind.i64.wrap ((m : Int) + 1 - 1) = (m : Int) := by rw [IntWalk.i64_in _ (by omega)]; omega
      have ewd : IntKind.i64.wrap (m : Int) = (m : Int) := IntWalk.i64_in _ (by omega)
      have hci : (m : Int) < (m : Int) + 1 := by omega
      have hci0 : (0 : Int) ≤ (m : Int) := by omega
      have hcp0 : (0 : Int) < (m : Int) + 1 := by omega
      clear hr hb2 a0 c0 c1 c2 c3 d0 e3 hcp
      go_upto_region 7 with fail
      have x0 := cell_regrown d0'
      have x1 := cell_regrown d1
      clear d0' d1
      refine region_qbt 10 (by kernel_rfl) (by kernel_rfl) ?_
      simp only [List.take_succ_cons, List.take_zero, List.drop_succ_cons, List.drop_zero]
      repeat (first | go_big_quiet_step (fail) | quiet_step (fail))
      refine wpQuiet_nil ?_; intro wq hbq
      clear x0 x1
      have hz3 := Lib.hid (hz2.out.later hbq)
      have HB3 := Lib.hid (HB2.out.trans (hbq.mono (by omega)))
      have hs3 := hbq.size
      obtain ⟨⟨b0, b1⟩, f0, f1⟩ := hz3.out
      have q := ((show N2At wq (W.heap.size + 1) 0 0 from hz3.out).set0 (st.P pi).f).set1 (st.P pi).hi
      have hbo := HB3.out
      have hqb := Lib.hid (show Below W.heap.size W ((wq.setCell ⟨W.heap.size + 1, 0, none⟩ (.int .i64 (st.P pi).f)).setCell ⟨W.heap.size + 1, 1, none⟩ (.int .i64 (st.P pi).hi)) from (by repeat (first | (with_reducible exact Below.refl _ _) | (with_reducible refine Below.drew ?_) | (with_reducible refine below_drewN ?_ _) | ((with_reducible refine below_alloc ?_ ?_ _); · (first | exact Nat.le_refl _ | omega | (simp; done) | (simp; omega) | (simp at *; omega))) | ((with_reducible refine below_set ?_ ?_ _); · (first | exact Nat.le_refl _ | omega | (simp; done) | (simp; omega) | (simp at *; omega))) | ((with_reducible refine below_via (by with_reducible assumption) ?_ ?_); · (first | exact Nat.le_refl _ | omega | (simp; done) | (simp; omega) | (simp at *; omega))))))
      clear hbo hbq
      go_wp2_with fail
      obtain ⟨⟨q0, q1⟩, _⟩ := q
      exact bodyPost_ret (v := spV ((st.P pi).f, (st.P pi).hi, 0)) (by simp [results, Try.results55, go_sem, q0, q1]) rfl ⟨by rw [HR.out], hqb.out⟩
  · have hnb : (st.check != 0) = true := by simpa using h0
    have HR : Hid (st.foulR p = (0, 0, st.check)) := Lib.hid (by unfold St.foulR; rw [if_pos h0])
    obtain ⟨⟨b0, b1⟩, f0, f1⟩ := hz1.out
    have q := ((show N2At w1 (W.heap.size + 1) 0 0 from hz1.out).set0 0).set1 0
    have hbo := HB1.out
    have hqb := Lib.hid (show Below W.heap.size W ((w1.setCell ⟨W.heap.size + 1, 0, none⟩ (.int .i64 0)).setCell ⟨W.heap.size + 1, 1, none⟩ (.int .i64 0)) from (by repeat (first | (with_reducible exact Below.refl _ _) | (with_reducible refine Below.drew ?_) | (with_reducible refine below_drewN ?_ _) | ((with_reducible refine below_alloc ?_ ?_ _); · (first | exact Nat.le_refl _ | omega | (simp; done) | (simp; omega) | (simp at *; omega))) | ((with_reducible refine below_set ?_ ?_ _); · (first | exact Nat.le_refl _ | omega | (simp; done) | (simp; omega) | (simp at *; omega))) | ((with_reducible refine below_via (by with_reducible assumption) ?_ ?_); · (first | exact Nat.le_refl _ | omega | (simp; done) | (simp; omega) | (simp at *; omega))))))
    clear h0 hbo
    go_wp2_with fail
    obtain ⟨⟨q0, q1⟩, _⟩ := q
    exact bodyPost_ret (v := spV (0, 0, st.check)) (by simp [results, Try.results55, go_sem, q0, q1]) rfl ⟨by rw [HR.out], hqb.out⟩
end Go.Proofs.Ytegmomappbehcaa
