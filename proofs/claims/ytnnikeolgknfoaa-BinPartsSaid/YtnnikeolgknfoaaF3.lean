/- The law BinParts, walked. -/
import Derived.Test.YtnnikeolgknfoaaF1
import Derived.Test.YtnnikeolgknfoaaF2
import Derived.Deep.CutBlock
set_option linter.unusedSimpArgs false
set_option linter.unusedVariables false
namespace Go.Proofs.Ytnnikeolgknfoaa
open Go.RowKit Go.Shelf

theorem row_of {w : World} {lo : Nat} {r : Rw} {bA dA vA : Option Addr} {bc dc vc : Nat} (hr : r.ok) (hb : OwnBn w lo bA r.n r.B) (hd : OwnInt w lo dA r.d r.D) (hv : OwnWg w lo vA r.m r.V) (h1 : r.n ≤ bc) (h2 : r.d ≤ dc) (h3 : r.m ≤ vc) : RwRow w w.heap.size r bA bc dA dc vA vc :=
  ⟨Nat.le_refl _, hb.row, hd.row, hv.row, by have := hr.n6; omega, by have := hr.d7; omega, by have := hr.m10; omega, h1, h2, h3⟩
theorem span_sums {r : Rw} (hr : r.ok) (h : r.round = []) {a L : Nat} (hb : a + L < r.n) : sumN (fun j => (r.sp (a + j)).a) (L + 1) ≤ (r.span a (a + L)).a ∧ (r.span a (a + L)).b ≤ sumN (fun j => (r.sp (a + j)).b) (L + 1) := by
  have hs := (Rw.fin_nil hr h).sums hr a (L + 1) (by omega)
  exact ⟨hs.2, hs.1⟩

set_option maxRecDepth 100000 in
set_option maxHeartbeats 8000000 in
theorem parts_law (nA : Option Addr) (nn nc : Nat) (W : World) (hby : ByIn W W.heap.size nA nn) (hln : nn ≤ 9223372036854775807) :
    Calls Try.prog 4 #[.slice nA nn nc] W fun e W' => e = .returned (.bool true) ∧ Below W.heap.size W W' := by
  have HBY := Lib.hid hby
  clear hby
  go_enter Try.func4, Try.ntmps4
  go_wp2_with fail
  refine (fill_any W.heap.size nA nn nc _ (Nat.le_refl _) HBY.out).mono ?_
  rintro e w1 ⟨cb, rfl, hcb, hb1, hch⟩
  have HB1 := Lib.hid hb1
  have HC1 := Lib.hid hch
  have hs1 := hb1.size
  have hcl : cb < w1.heap.size := by
    obtain ⟨u, z, _, h⟩ := hch
    exact h.lt
  clear hb1 hch
  go_wp2_with fail
  refine (made_any 6 6 (by omega) (by omega) W.heap.size cb nA nn nc hln _ hs1 hcl HC1.out).mono ?_
  rintro e w2 ⟨r, X, bA, dA, vA, xA, bc, dc, vc, xc, rfl, hmd, hob, hod, hov, hox, ⟨hbc, hdc, hvc, hxc⟩, hg2, hc2⟩
  have hok := hmd.ok (by omega) (by omega)
  have HOK := Lib.hid hok
  have HRD := Lib.hid (hmd.round (by omega) (by omega))
  have hn6 := hok.n6
  have hn1 := hok.n1
  have hck := Rw.check_ok.2 hok
  have HCK := Lib.hid hck
  have HFE := Lib.hid (Rw.fit_zero hok HRD.out)
  have HB2 := Lib.hid (HB1.out.trans (gb_below hg2 hs1 hcb))
  have HR2 := Lib.hid (row_of hok hob hod hov hbc hdc hvc)
  have hs2 := HB2.out.size
  clear hmd hob hod hov hox hg2 hc2 hok hck HB1 HC1 HBY hs1 hcl hcb hxc hbc hdc hvc
  go_upto_region 2 with fail
  refine wp_world (fun w' => RwAt w' w2.heap.size r bA bc dA dc vA vc ∧ Below w2.heap.size w2 w' ∧ w2.heap.size + 1 ≤ w'.heap.size) ⟨⟨(by (repeat' refine And.intro ?_ ?_) <;> (repeat (first | (with_reducible assumption) | (simp; done) | (with_reducible refine cell_drew_of ?_) | (with_reducible refine cell_drewN_of ?_) | (with_reducible refine cell_below_of (by with_reducible assumption) ?_) | ((with_reducible refine cell_new_of ?_ ?_) <;> (first | (with_reducible rfl) | (simp; done))) | ((with_reducible refine fro_new_of ?_) <;> (first | (with_reducible rfl) | (simp; done))) | (with_reducible refine cell_alloc_of _ ?_) | (with_reducible refine cell_set_of _ (by (first | exact Nat.le_refl _ | omega | (simp; done) | (simp; omega))) ?_) | (with_reducible refine fro_drew_of ?_) | (with_reducible refine fro_drewN_of ?_) | (with_reducible refine fro_below_of (by with_reducible assumption) (by (first | exact Nat.le_refl _ | omega | (simp; done) | (simp; omega))) ?_) | (with_reducible refine fro_alloc_of _ (by (first | exact Nat.le_refl _ | omega | (simp; done) | (simp; omega))) ?_) | (with_reducible refine fro_set_of _ ?_)))), (by (repeat' refine And.intro ?_ ?_) <;> (repeat (first | (with_reducible assumption) | (simp; done) | (with_reducible refine cell_drew_of ?_) | (with_reducible refine cell_drewN_of ?_) | (with_reducible refine cell_below_of (by with_reducible assumption) ?_) | ((with_reducible refine cell_new_of ?_ ?_) <;> (first | (with_reducible rfl) | (simp; done))) | ((with_reducible refine fro_new_of ?_) <;> (first | (with_reducible rfl) | (simp; done))) | (with_reducible refine cell_alloc_of _ ?_) | (with_reducible refine cell_set_of _ (by (first | exact Nat.le_refl _ | omega | (simp; done) | (simp; omega))) ?_) | (with_reducible refine fro_drew_of ?_) | (with_reducible refine fro_drewN_of ?_) | (with_reducible refine fro_below_of (by with_reducible assumption) (by (first | exact Nat.le_refl _ | omega | (simp; done) | (simp; omega))) ?_) | (with_reducible refine fro_alloc_of _ (by (first | exact Nat.le_refl _ | omega | (simp; done) | (simp; omega))) ?_) | (with_reducible refine fro_set_of _ ?_)))), (by (repeat' refine And.intro ?_ ?_) <;> (repeat (first | (with_reducible assumption) | (simp; done) | (with_reducible refine cell_drew_of ?_) | (with_reducible refine cell_drewN_of ?_) | (with_reducible refine cell_below_of (by with_reducible assumption) ?_) | ((with_reducible refine cell_new_of ?_ ?_) <;> (first | (with_reducible rfl) | (simp; done))) | ((with_reducible refine fro_new_of ?_) <;> (first | (with_reducible rfl) | (simp; done))) | (with_reducible refine cell_alloc_of _ ?_) | (with_reducible refine cell_set_of _ (by (first | exact Nat.le_refl _ | omega | (simp; done) | (simp; omega))) ?_) | (with_reducible refine fro_drew_of ?_) | (with_reducible refine fro_drewN_of ?_) | (with_reducible refine fro_below_of (by with_reducible assumption) (by (first | exact Nat.le_refl _ | omega | (simp; done) | (simp; omega))) ?_) | (with_reducible refine fro_alloc_of _ (by (first | exact Nat.le_refl _ | omega | (simp; done) | (simp; omega))) ?_) | (with_reducible refine fro_set_of _ ?_))))⟩, (by repeat (first | (with_reducible exact Below.refl _ _) | (with_reducible assumption) | (with_reducible refine Below.drew ?_) | ((with_reducible refine below_alloc ?_ ?_ _); (· (first | exact Nat.le_refl _ | omega | (dsimp only; omega) | (simp only [World.size_alloc, World.size_drew, World.heap_drewN]; omega) | (simp; omega)))) | ((with_reducible refine below_set ?_ ?_ _); (· (first | exact Nat.le_refl _ | omega | (dsimp only; omega) | (simp only [World.size_alloc, World.size_drew, World.heap_drewN]; omega) | (simp; omega)))) | ((with_reducible refine below_via (by with_reducible assumption) ?_ ?_); (· (first | exact Nat.le_refl _ | omega | (dsimp only; omega) | (simp only [World.size_alloc, World.size_drew, World.heap_drewN]; omega) | (simp; omega)))))), by simp⟩ ?_
  rintro w3 ⟨hx3, hb3, hs3⟩
  have HX3 := Lib.hid hx3
  have HR3 := Lib.hid (HR2.out.on hb3)
  have HB3 := Lib.hid (HB2.out.trans (hb3.mono hs2))
  obtain ⟨c0, c1, c2⟩ := hx3
  obtain ⟨rx, hrx⟩ : ∃ rx, rx = w2.heap.size := ⟨_, rfl⟩
  rw [← hrx] at HX3 c0 c1 c2 hs3
  rw [← hrx]
  clear hb3 HR2 HB2 hs2 hrx
  go_wp2_with fail
  refine (own_any r bA dA vA bc dc vc _ HR3.out).mono ?_
  rintro e w4 ⟨bA2, dA2, vA2, bc2, dc2, vc2, rfl, hob, hod, hov, ⟨hbc2, hdc2, hvc2⟩, hb4⟩
  have HX4 := Lib.hid (HX3.out.later hb4)
  have HR4 := Lib.hid (HR3.out.on hb4)
  have hs3' := HB3.out.size
  have HB4 := Lib.hid (HB3.out.trans (hb4.mono hs3'))
  have HOB := Lib.hid hob
  have HOD := Lib.hid hod
  have hs4 := hb4.size
  clear hob hod hov hb4 HX3 HR3 HB3 c0 c1 c2 hvc2
  go_upto_region 4 with fail
  refine wp_world (fun w' => RwAt w' w4.heap.size r.bare bA2 bc2 dA2 dc2 none 0 ∧ Below w4.heap.size w4 w' ∧ w4.heap.size + 1 ≤ w'.heap.size) ⟨⟨by simp [go_sem, Rw.bare], by simp [go_sem, Rw.bare], by simp [go_sem, Rw.bare]⟩, (by repeat (first | (with_reducible exact Below.refl _ _) | (with_reducible assumption) | (with_reducible refine Below.drew ?_) | ((with_reducible refine below_alloc ?_ ?_ _); (· (first | exact Nat.le_refl _ | omega | (dsimp only; omega) | (simp only [World.size_alloc, World.size_drew, World.heap_drewN]; omega) | (simp; omega)))) | ((with_reducible refine below_set ?_ ?_ _); (· (first | exact Nat.le_refl _ | omega | (dsimp only; omega) | (simp only [World.size_alloc, World.size_drew, World.heap_drewN]; omega) | (simp; omega)))) | ((with_reducible refine below_via (by with_reducible assumption) ?_ ?_); (· (first | exact Nat.le_refl _ | omega | (dsimp only; omega) | (simp only [World.size_alloc, World.size_drew, World.heap_drewN]; omega) | (simp; omega)))))), by simp [World.setCell]⟩ ?_
  rintro w5 ⟨hx5, hb5, hs5⟩
  have hs4' := HB4.out.size
  have HP5 := Lib.hid hx5
  have HX5 := Lib.hid (HX4.out.later hb5)
  have HR5 := Lib.hid (HR4.out.on hb5)
  have HB5 := Lib.hid (HB4.out.trans (hb5.mono hs4'))
  have HQ5 : Hid (RwRow w5 w5.heap.size r.bare bA2 bc2 dA2 dc2 none 0) := Lib.hid ⟨Nat.le_refl _, (HOB.out.later hb5).row, (HOD.out.later hb5).row, fun k hk => absurd hk (by show ¬ k < 0; omega), by show r.n ≤ 1000; omega, by show r.d ≤ 1000; have := HOK.out.d7; omega, by show 0 ≤ 1000; omega, hbc2, hdc2, by show 0 ≤ 0; omega⟩
  obtain ⟨bx, hbx⟩ : ∃ bx, bx = w4.heap.size := ⟨_, rfl⟩
  rw [← hbx] at HP5 hs5
  rw [← hbx]
  obtain ⟨c0, c1, c2⟩ := HX5.out
  clear hx5 hb5 HX4 HR4 HB4 HOB HOD hbx hs4 hs4' hs3' hs3 hbc2 hdc2
  go_wp2_with fail
  refine (Spans_any r bA dA vA bc dc vc _ HR5.out).mono ?_
  intro e w6 hpost
  obtain ⟨sA, sc, rfl, hsr, hsc, hb6⟩ := sps_of hpost HCK.out
  have hs5' := HB5.out.size
  have HS6 := Lib.hid hsr
  have HX6 := Lib.hid (HX5.out.later hb6)
  have HP6 := Lib.hid (HP5.out.later hb6)
  have HR6 := Lib.hid (HR5.out.on hb6)
  have HQ6 := Lib.hid (HQ5.out.on hb6)
  have HB6 := Lib.hid (HB5.out.trans (hb6.mono hs5'))
  clear hpost hsr hb6 HX5 HP5 HR5 HQ5 HB5 c0 c1 c2 hs5 hs5'
  obtain ⟨c0, c1, c2⟩ := HX6.out
  go_wp2_with fail
  refine (Holds_any r bA dA vA bc dc vc _ HR6.out).mono ?_
  intro e w7 hpost
  obtain ⟨hA, hc, rfl, hhr, hhc, hb7⟩ := sps_of hpost HFE.out
  have hs6' := HB6.out.size
  have HH7 := Lib.hid hhr
  have HS7 := Lib.hid (HS6.out.later hb7)
  have HX7 := Lib.hid (HX6.out.later hb7)
  have HP7 := Lib.hid (HP6.out.later hb7)
  have HR7 := Lib.hid (HR6.out.on hb7)
  have HQ7 := Lib.hid (HQ6.out.on hb7)
  have HB7 := Lib.hid (HB6.out.trans (hb7.mono hs6'))
  clear hpost hhr hb7 HX6 HP6 HR6 HQ6 HB6 HS6 c0 c1 c2 hs6'
  obtain ⟨c0, c1, c2⟩ := HX7.out
  have hnn : ((r.n : Int) != (r.n : Int)) = false := by simp
  go_wp2_with fail
  refine (pairs_any bA r.n bc _ _ hn6 ⟨_, _, _, rfl⟩ ⟨_, _, _, rfl⟩ _).mono ?_
  rintro e w8 ⟨pA, pc, m, P, rfl, hm36, hpp, hpr, hb8⟩
  have hs7' := HB7.out.size
  have HPP := Lib.hid hpp
  have HPR := Lib.hid hpr
  have HH := Lib.hid (HH7.out.later hb8)
  have HS := Lib.hid (HS7.out.later hb8)
  have HX := Lib.hid (HX7.out.later hb8)
  have HP := Lib.hid (HP7.out.later hb8)
  have HR := Lib.hid (HR7.out.on hb8)
  have HQ := Lib.hid (HQ7.out.on hb8)
  have HB := Lib.hid (HB7.out.trans (hb8.mono hs7'))
  clear hpp hpr hb8 HX7 HP7 HR7 HQ7 HB7 HS7 HH7 c0 c1 c2 hs7' HCK HFE hnn
  go_wp2_with fail
  go_loopw [71] (fun i wr => ∃ q : Nat, q ≤ m ∧ i = .int .i64 q ∧ Hid (Below w8.heap.size w8 wr)) (fun i _ => m - (intOf i).toNat)
  case atStart => exact ⟨0, Nat.zero_le _, rfl, Lib.hid (Below.refl _ _)⟩
  case round =>
    obtain ⟨q, hq, rfl, HBw⟩ := hrel
    obtain ⟨wo, rfl⟩ : ∃ wo, wo = wr := ⟨_, rfl⟩
    have hsw := HBw.out.size
    by_cases hlt : q < m
    · have hq0 : (0 : Int) ≤ (q : Int) := by omega
      have hqn : (q : Int) < (m : Int) := by omega
      have eq1 : IntKind.i64.wrap ((q : Int) + 1) = (q : Int) + 1 := IntWalk.i64_in _ (by omega)
      obtain ⟨pb, hpA, hpl, p0, p1⟩ := (HPR.out.below HBw.out) q hlt
      obtain ⟨hab, hbn⟩ := HPP.out q hlt
      obtain ⟨⟨a, b⟩, hpq⟩ : ∃ x, x = P q := ⟨_, rfl⟩
      rw [← hpq] at p0 p1 hab hbn
      dsimp only at p0 p1 hab hbn
      obtain ⟨L, rfl⟩ : ∃ L, b = a + L := ⟨b - a, by omega⟩
      subst hpA
      clear hpq
      go_upto_region 11 with fail
      refine wp_world (fun w' => N2c w' wo.heap.size a (a + L : Nat) ∧ Below wo.heap.size wo w' ∧ wo.heap.size + 1 ≤ w'.heap.size) ⟨⟨(by (repeat' refine And.intro ?_ ?_) <;> (repeat (first | (with_reducible assumption) | (simp; done) | (with_reducible refine cell_drew_of ?_) | (with_reducible refine cell_drewN_of ?_) | (with_reducible refine cell_below_of (by with_reducible assumption) ?_) | ((with_reducible refine cell_new_of ?_ ?_) <;> (first | (with_reducible rfl) | (simp; done))) | ((with_reducible refine fro_new_of ?_) <;> (first | (with_reducible rfl) | (simp; done))) | (with_reducible refine cell_alloc_of _ ?_) | (with_reducible refine cell_set_of _ (by (first | exact Nat.le_refl _ | omega | (simp; done) | (simp; omega))) ?_) | (with_reducible refine fro_drew_of ?_) | (with_reducible refine fro_drewN_of ?_) | (with_reducible refine fro_below_of (by with_reducible assumption) (by (first | exact Nat.le_refl _ | omega | (simp; done) | (simp; omega))) ?_) | (with_reducible refine fro_alloc_of _ (by (first | exact Nat.le_refl _ | omega | (simp; done) | (simp; omega))) ?_) | (with_reducible refine fro_set_of _ ?_)))), (by (repeat' refine And.intro ?_ ?_) <;> (repeat (first | (with_reducible assumption) | (simp; done) | (with_reducible refine cell_drew_of ?_) | (with_reducible refine cell_drewN_of ?_) | (with_reducible refine cell_below_of (by with_reducible assumption) ?_) | ((with_reducible refine cell_new_of ?_ ?_) <;> (first | (with_reducible rfl) | (simp; done))) | ((with_reducible refine fro_new_of ?_) <;> (first | (with_reducible rfl) | (simp; done))) | (with_reducible refine cell_alloc_of _ ?_) | (with_reducible refine cell_set_of _ (by (first | exact Nat.le_refl _ | omega | (simp; done) | (simp; omega))) ?_) | (with_reducible refine fro_drew_of ?_) | (with_reducible refine fro_drewN_of ?_) | (with_reducible refine fro_below_of (by with_reducible assumption) (by (first | exact Nat.le_refl _ | omega | (simp; done) | (simp; omega))) ?_) | (with_reducible refine fro_alloc_of _ (by (first | exact Nat.le_refl _ | omega | (simp; done) | (simp; omega))) ?_) | (with_reducible refine fro_set_of _ ?_))))⟩, (by repeat (first | (with_reducible exact Below.refl _ _) | (with_reducible assumption) | (with_reducible refine Below.drew ?_) | ((with_reducible refine below_alloc ?_ ?_ _); (· (first | exact Nat.le_refl _ | omega | (dsimp only; omega) | (simp only [World.size_alloc, World.size_drew, World.heap_drewN]; omega) | (simp; omega)))) | ((with_reducible refine below_set ?_ ?_ _); (· (first | exact Nat.le_refl _ | omega | (dsimp only; omega) | (simp only [World.size_alloc, World.size_drew, World.heap_drewN]; omega) | (simp; omega)))) | ((with_reducible refine below_via (by with_reducible assumption) ?_ ?_); (· (first | exact Nat.le_refl _ | omega | (dsimp only; omega) | (simp only [World.size_alloc, World.size_drew, World.heap_drewN]; omega) | (simp; omega)))))), by simp⟩ ?_
      rintro w9 ⟨hp9, hb9, hs9⟩
      have HB9 := Lib.hid (HBw.out.trans (hb9.mono hsw))
      have hsw9 := HB9.out.size
      have q0 := cell_regrown hp9.1
      have q1 := cell_regrown hp9.2
      clear hp9 hb9 p0 p1
      refine region_qbw (by kernel_rfl) (by kernel_rfl) ?_
      repeat (first | go_big_quiet_step (fail) | quiet_step (fail))
      refine wpQuiet_nil ?_; intro wq hbq
      have HB10 := Lib.hid (HB9.out.trans (hbq.mono hsw9))
      clear q0 q1 hbq HB9
      have hsw10 := HB10.out.size
      obtain ⟨c0, c1, c2⟩ := HX.out.later HB10.out
      go_wp2_with fail
      refine (Sum_any r (a : Int) ((a + L : Nat) : Int) bA dA vA bc dc vc _ (HR.out.on HB10.out)).mono ?_
      rintro e w11 ⟨rfl, hb11⟩
      have ha1 := Rw.ask_zero HOK.out HRD.out hab hbn
      rw [Rw.sumS_ok ha1, ha1]
      have HB11 := Lib.hid (HB10.out.trans (hb11.mono hsw10))
      have hsw11 := HB11.out.size
      have hss := span_sums HOK.out HRD.out hbn
      obtain ⟨⟨z1, z2⟩, hz⟩ : ∃ x, x = r.span a (a + L) := ⟨_, rfl⟩
      rw [← hz] at hss ⊢
      have HZ : Hid (z1 = (r.span a (a + L)).a ∧ z2 = (r.span a (a + L)).b) := Lib.hid (by rw [← hz]; exact ⟨rfl, rfl⟩)
      dsimp only at hss ⊢
      clear hz hb11 c0 c1 c2 ha1
      go_upto_region 13 with fail
      refine wp_world (fun w' => N2c w' w11.heap.size z1 z2 ∧ Below w11.heap.size w11 w' ∧ w11.heap.size + 1 ≤ w'.heap.size) ⟨⟨(by (repeat' refine And.intro ?_ ?_) <;> (repeat (first | (with_reducible assumption) | (simp; done) | (with_reducible refine cell_drew_of ?_) | (with_reducible refine cell_drewN_of ?_) | (with_reducible refine cell_below_of (by with_reducible assumption) ?_) | ((with_reducible refine cell_new_of ?_ ?_) <;> (first | (with_reducible rfl) | (simp; done))) | ((with_reducible refine fro_new_of ?_) <;> (first | (with_reducible rfl) | (simp; done))) | (with_reducible refine cell_alloc_of _ ?_) | (with_reducible refine cell_set_of _ (by (first | exact Nat.le_refl _ | omega | (simp; done) | (simp; omega))) ?_) | (with_reducible refine fro_drew_of ?_) | (with_reducible refine fro_drewN_of ?_) | (with_reducible refine fro_below_of (by with_reducible assumption) (by (first | exact Nat.le_refl _ | omega | (simp; done) | (simp; omega))) ?_) | (with_reducible refine fro_alloc_of _ (by (first | exact Nat.le_refl _ | omega | (simp; done) | (simp; omega))) ?_) | (with_reducible refine fro_set_of _ ?_)))), (by (repeat' refine And.intro ?_ ?_) <;> (repeat (first | (with_reducible assumption) | (simp; done) | (with_reducible refine cell_drew_of ?_) | (with_reducible refine cell_drewN_of ?_) | (with_reducible refine cell_below_of (by with_reducible assumption) ?_) | ((with_reducible refine cell_new_of ?_ ?_) <;> (first | (with_reducible rfl) | (simp; done))) | ((with_reducible refine fro_new_of ?_) <;> (first | (with_reducible rfl) | (simp; done))) | (with_reducible refine cell_alloc_of _ ?_) | (with_reducible refine cell_set_of _ (by (first | exact Nat.le_refl _ | omega | (simp; done) | (simp; omega))) ?_) | (with_reducible refine fro_drew_of ?_) | (with_reducible refine fro_drewN_of ?_) | (with_reducible refine fro_below_of (by with_reducible assumption) (by (first | exact Nat.le_refl _ | omega | (simp; done) | (simp; omega))) ?_) | (with_reducible refine fro_alloc_of _ (by (first | exact Nat.le_refl _ | omega | (simp; done) | (simp; omega))) ?_) | (with_reducible refine fro_set_of _ ?_))))⟩, (by repeat (first | (with_reducible exact Below.refl _ _) | (with_reducible assumption) | (with_reducible refine Below.drew ?_) | ((with_reducible refine below_alloc ?_ ?_ _); (· (first | exact Nat.le_refl _ | omega | (dsimp only; omega) | (simp only [World.size_alloc, World.size_drew, World.heap_drewN]; omega) | (simp; omega)))) | ((with_reducible refine below_set ?_ ?_ _); (· (first | exact Nat.le_refl _ | omega | (dsimp only; omega) | (simp only [World.size_alloc, World.size_drew, World.heap_drewN]; omega) | (simp; omega)))) | ((with_reducible refine below_via (by with_reducible assumption) ?_ ?_); (· (first | exact Nat.le_refl _ | omega | (dsimp only; omega) | (simp only [World.size_alloc, World.size_drew, World.heap_drewN]; omega) | (simp; omega)))))), by simp⟩ ?_
      rintro w12 ⟨hw12, hb12, hs12⟩
      have HW12 := Lib.hid hw12
      have HB12 := Lib.hid (HB11.out.trans (hb12.mono hsw11))
      have hsw12 := HB12.out.size
      obtain ⟨wbx, hwbx⟩ : ∃ b, b = w11.heap.size := ⟨_, rfl⟩
      rw [← hwbx] at HW12
      rw [← hwbx]
      obtain ⟨c0, c1, c2⟩ := HP.out.later HB12.out
      clear hw12 hb12 hwbx hs12
      go_wp2_with fail
      refine (Sum_any r.bare (a : Int) ((a + L : Nat) : Int) bA2 dA2 none bc2 dc2 0 _ (HQ.out.on HB12.out)).mono ?_
      rintro e w13 ⟨rfl, hb13⟩
      have ha2 := Rw.ask_zero (Rw.bare_ok HOK.out) (Rw.bare_round HOK.out) hab (show a + L < r.bare.n from hbn)
      rw [Rw.sumS_ok ha2, ha2, Rw.bare_span HOK.out hbn]
      have HB13 := Lib.hid (HB12.out.trans (hb13.mono hsw12))
      have HW13 := Lib.hid (HW12.out.later hb13)
      have hsw13 := HB13.out.size
      obtain ⟨s1, hs1⟩ : ∃ x, x = sumN (fun j => (r.sp (a + j)).a) (L + 1) := ⟨_, rfl⟩
      obtain ⟨s2, hs2⟩ : ∃ x, x = sumN (fun j => (r.sp (a + j)).b) (L + 1) := ⟨_, rfl⟩
      rw [← hs1, ← hs2] at hss ⊢
      have HSS := Lib.hid (And.intro hs1 hs2)
      dsimp only
      clear hs1 hs2 hb13 c0 c1 c2 ha2 HW12
      go_upto_region 14 with fail
      refine wp_world (fun w' => N2c w' w13.heap.size s1 s2 ∧ Below w13.heap.size w13 w' ∧ w13.heap.size + 1 ≤ w'.heap.size) ⟨⟨(by (repeat' refine And.intro ?_ ?_) <;> (repeat (first | (with_reducible assumption) | (simp; done) | (with_reducible refine cell_drew_of ?_) | (with_reducible refine cell_drewN_of ?_) | (with_reducible refine cell_below_of (by with_reducible assumption) ?_) | ((with_reducible refine cell_new_of ?_ ?_) <;> (first | (with_reducible rfl) | (simp; done))) | ((with_reducible refine fro_new_of ?_) <;> (first | (with_reducible rfl) | (simp; done))) | (with_reducible refine cell_alloc_of _ ?_) | (with_reducible refine cell_set_of _ (by (first | exact Nat.le_refl _ | omega | (simp; done) | (simp; omega))) ?_) | (with_reducible refine fro_drew_of ?_) | (with_reducible refine fro_drewN_of ?_) | (with_reducible refine fro_below_of (by with_reducible assumption) (by (first | exact Nat.le_refl _ | omega | (simp; done) | (simp; omega))) ?_) | (with_reducible refine fro_alloc_of _ (by (first | exact Nat.le_refl _ | omega | (simp; done) | (simp; omega))) ?_) | (with_reducible refine fro_set_of _ ?_)))), (by (repeat' refine And.intro ?_ ?_) <;> (repeat (first | (with_reducible assumption) | (simp; done) | (with_reducible refine cell_drew_of ?_) | (with_reducible refine cell_drewN_of ?_) | (with_reducible refine cell_below_of (by with_reducible assumption) ?_) | ((with_reducible refine cell_new_of ?_ ?_) <;> (first | (with_reducible rfl) | (simp; done))) | ((with_reducible refine fro_new_of ?_) <;> (first | (with_reducible rfl) | (simp; done))) | (with_reducible refine cell_alloc_of _ ?_) | (with_reducible refine cell_set_of _ (by (first | exact Nat.le_refl _ | omega | (simp; done) | (simp; omega))) ?_) | (with_reducible refine fro_drew_of ?_) | (with_reducible refine fro_drewN_of ?_) | (with_reducible refine fro_below_of (by with_reducible assumption) (by (first | exact Nat.le_refl _ | omega | (simp; done) | (simp; omega))) ?_) | (with_reducible refine fro_alloc_of _ (by (first | exact Nat.le_refl _ | omega | (simp; done) | (simp; omega))) ?_) | (with_reducible refine fro_set_of _ ?_))))⟩, (by repeat (first | (with_reducible exact Below.refl _ _) | (with_reducible assumption) | (with_reducible refine Below.drew ?_) | ((with_reducible refine below_alloc ?_ ?_ _); (· (first | exact Nat.le_refl _ | omega | (dsimp only; omega) | (simp only [World.size_alloc, World.size_drew, World.heap_drewN]; omega) | (simp; omega)))) | ((with_reducible refine below_set ?_ ?_ _); (· (first | exact Nat.le_refl _ | omega | (dsimp only; omega) | (simp only [World.size_alloc, World.size_drew, World.heap_drewN]; omega) | (simp; omega)))) | ((with_reducible refine below_via (by with_reducible assumption) ?_ ?_); (· (first | exact Nat.le_refl _ | omega | (dsimp only; omega) | (simp only [World.size_alloc, World.size_drew, World.heap_drewN]; omega) | (simp; omega)))))), by simp⟩ ?_
      rintro w14 ⟨hw14, hb14, hs14⟩
      have HY14 := Lib.hid hw14
      have HB14 := Lib.hid (HB13.out.trans (hb14.mono hsw13))
      have HW14 := Lib.hid (HW13.out.later hb14)
      have hsw14 := HB14.out.size
      obtain ⟨ybx, hybx⟩ : ∃ b, b = w13.heap.size := ⟨_, rfl⟩
      rw [← hybx] at HY14
      rw [← hybx]
      clear hw14 hb14 hybx hs14 HW13
      obtain ⟨gb, go, hsA, -⟩ := HS.out 0 (by omega)
      subst hsA
      have HS14 := Lib.hid (HS.out.later HB14.out)
      have hlen : a + L + 1 - a = L + 1 := by omega
      have et : IntKind.i64.wrap (((a + L : Nat) : Int) + 1) = ((a + L + 1 : Nat) : Int) := IntWalk.i64_in _ (by omega)
      go_upto_block 2 with fail
      rw [hlen]
      refine parts_loop2 r HOK a L hbn hn6 gb go _ w14 HS14 _ (fun w' HBW => ?_)
      rw [← HSS.out.1, ← HSS.out.2]
      have hsw15 := HBW.out.size
      have HB15 := Lib.hid (HB14.out.trans (HBW.out.mono hsw14))
      have hsz15 := HB15.out.size
      have HW15 := Lib.hid (HW14.out.later HBW.out)
      have hy15 := HY14.out.later HBW.out
      obtain ⟨hb', ho', hhA, -, h0, h1⟩ := (HH.out.later HB15.out) a (by omega)
      subst hhA
      have hh : L = 0 → (r.span a a).a = z1 ∧ (r.span a a).b = z2 := fun e => by
        subst e
        rw [Nat.add_zero] at HZ
        exact ⟨HZ.out.1.symm, HZ.out.2.symm⟩
      have hai : (a : Int) < (r.n : Int) := by omega
      have hai0 : (0 : Int) ≤ (a : Int) := by omega
      have hzb1 : ¬ z1 < s1 := by omega
      have hzb2 : ¬ s2 < z2 := by omega
      have q0 := cell_regrown HW15.out.1
      have q1 := cell_regrown HW15.out.2
      have q2 := cell_regrown hy15.1
      have q3 := cell_regrown hy15.2
      dsimp only at h0 h1
      clear HW14 HY14 HB14 HS14 hy15 hlen et
      go_upto_region 20 with fail
      go_cut [149] (fun c wx => c = .bool false ∧ Hid (Below w8.heap.size w8 wx) ∧ Hid (N2c wx wbx z1 z2))
      case first =>
        by_cases hL : L = 0
        · have hee := hh hL
          rw [hee.1] at h0
          rw [hee.2] at h1
          subst hL
          have hbeq : ((a : Int) == ((a + 0 : Nat) : Int)) = true := by simp
          have q4 := cell_regrown h0
          have q5 := cell_regrown h1
          clear hh hee h0 h1 HSS
          refine region_qbw (by kernel_rfl) (by kernel_rfl) ?_
          repeat (first | go_big_quiet_step ((go_at_call 20; exact Calls.regrown_of (span_fn _ _ _))) | quiet_step ((go_at_call 20; exact Calls.regrown_of (span_fn _ _ _))))
          refine wpQuiet_nil ?_; intro wq2 hbq
          have HBQ := Lib.hid (HB15.out.trans (hbq.mono hsz15))
          have HWQ := Lib.hid (HW15.out.later hbq)
          clear q0 q1 q2 q3 q4 q5 hbq
          go_wp2_with fail
          go_meet
          exact ⟨rfl, HBQ, HWQ⟩
        · have hbeq : ((a : Int) == (a : Int) + (L : Int)) = false := by rw [beq_eq_false_iff_ne]; omega
          clear hh h0 h1 HSS
          refine region_qbw (by kernel_rfl) (by kernel_rfl) ?_
          repeat (first | go_big_quiet_step ((go_at_call 20; exact Calls.regrown_of (span_fn _ _ _))) | quiet_step ((go_at_call 20; exact Calls.regrown_of (span_fn _ _ _))))
          refine wpQuiet_nil ?_; intro wq2 hbq
          have HBQ := Lib.hid (HB15.out.trans (hbq.mono hsz15))
          have HWQ := Lib.hid (HW15.out.later hbq)
          clear q0 q1 q2 q3 hbq
          go_wp2_with fail
          go_meet
          exact ⟨rfl, HBQ, HWQ⟩
      case rest =>
        obtain ⟨rfl, HBr, HWr⟩ := hcut
        clear q0 q1 q2 q3 h0 h1 hh HB15 HW15
        have hsr := HBr.out.size
        go_upto_block 4 with fail
        refine parts_loop3 r HOK HRD a (a + L) hab hbn hn6 rx wbx bA dA vA bc dc vc z1 z2 HZ _ (Lib.hid (HR.out.on HBr.out)) (Lib.hid (HX.out.later HBr.out)) HWr _ (fun w' HBW2 => ?_)
        have HBf := Lib.hid (HBr.out.trans (HBW2.out.mono hsr))
        clear HBr HWr HBW2
        go_wp2_with fail
        go_roundw
        case rel => exact ⟨q + 1, by omega, by go_num, HBf⟩
        case measure => simp [intOf]; omega
    · obtain rfl : q = m := by omega
      have hge : ¬ (q : Int) < (q : Int) := by omega
      have HBe := Lib.hid (HB.out.trans (HBw.out.mono HB.out.size))
      go_wp2_with fail
      refine (awake_any _).mono ?_
      rintro e wc ⟨rfl, hb⟩
      have Hc := Lib.hid (HBe.out.trans (hb.mono HBe.out.size))
      clear hb
      go_wp2_with fail
      go_ret
      exact ⟨rfl, Hc.out⟩
end Go.Proofs.Ytnnikeolgknfoaa
