/- The law BinSettled, walked. -/
import Derived.Test.YtnnikeolgknfoaaI3
import Derived.Test.YtnnikeolgknfoaaH2
import Derived.Deep.CutBlock
set_option linter.unusedSimpArgs false
set_option linter.unusedVariables false
namespace Go.Proofs.Ytnnikeolgknfoaa
open Go.RowKit Go.Shelf

set_option maxRecDepth 100000 in
set_option maxHeartbeats 8000000 in
theorem settled_law (nA : Option Addr) (nn nc : Nat) (i1 i2 : Int) (W : World) (hby : ByIn W W.heap.size nA nn) (hln : nn ≤ 9223372036854775807) :
    Calls Try.prog 6 #[.slice nA nn nc, .int .i64 i1, .int .i64 i2] W fun e W' => e = .returned (.bool true) ∧ Below W.heap.size W W' := by
  have HBY := Lib.hid hby
  clear hby
  go_enter Try.func6, Try.ntmps6
  go_wp2_with fail
  refine (fill_any W.heap.size nA nn nc _ (Nat.le_refl _) HBY.out).mono ?_
  rintro e w1 ⟨cb, rfl, hcb, hb1, hch⟩
  have HB1 := Lib.hid hb1
  have HC1 := Lib.hid hch
  have hs1 := hb1.size
  have hcl : cb < w1.heap.size := by
    obtain ⟨u, z, _, h⟩ := hch
    exact h.lt
  clear hb1 hch
  go_wp2_with fail
  refine (made_any 4 4 (by omega) (by omega) W.heap.size cb nA nn nc hln _ hs1 hcl HC1.out).mono ?_
  rintro e w2 ⟨r, X, bA, dA, vA, xA, bc, dc, vc, xc, rfl, hmd, hob, hod, hov, hox, ⟨hbc, hdc, hvc, hxc⟩, hg2, hc2⟩
  have hok := hmd.ok (by omega) (by omega)
  have HOK := Lib.hid hok
  have HMD := Lib.hid hmd
  have h0 := hmd.round (by omega) (by omega)
  have H0 := Lib.hid h0
  have hn1 := hok.n1
  have hn4 : r.n ≤ 4 := by have := hmd.n.2; omega
  have hm4 : r.m ≤ 4 := by have := hmd.m; omega
  have hd1 := hmd.d.1
  have HB2 := Lib.hid (HB1.out.trans (gb_below hg2 hs1 hcb))
  have HR2 : Hid (RwRow w2 w2.heap.size r bA bc dA dc vA vc) := Lib.hid ⟨Nat.le_refl _, hob.row, hod.row, hov.row, by have := hok.n6; omega, by have := hok.d7; omega, by have := hok.m10; omega, hbc, hdc, hvc⟩
  have HX2 := Lib.hid hox.row
  have hs2 := HB2.out.size
  clear hmd hob hod hov hox hg2 hc2 hok h0 HB1 HC1 HBY hs1 hcl hcb hbc hdc hvc
  go_upto_region 2 with fail
  refine wp_world (fun w' => RwAt w' w2.heap.size r bA bc dA dc vA vc ∧ Below w2.heap.size w2 w' ∧ w2.heap.size + 1 ≤ w'.heap.size) ⟨⟨(by (repeat' refine And.intro ?_ ?_) <;> (repeat (first | with_reducible assumption | (simp; done) | (with_reducible first | refine Kd ?_ | refine Kn ?_ | refine Kb (by assumption) ?_) | ((with_reducible first | refine Kw ?_ ?_ | refine Fw ?_) <;> first | with_reducible rfl | (simp; done)) | (with_reducible first | refine Ka _ ?_ | refine Ks _ (by first | exact Nat.le_refl _ | omega | (simp; done) | (simp; omega)) ?_ | refine Fd ?_ | refine Fn ?_ | refine Fb (by assumption) (by first | exact Nat.le_refl _ | omega | (simp; done) | (simp; omega)) ?_ | refine Fa _ (by first | exact Nat.le_refl _ | omega | (simp; done) | (simp; omega)) ?_ | refine Fs _ ?_)))), (by (repeat' refine And.intro ?_ ?_) <;> (repeat (first | with_reducible assumption | (simp; done) | (with_reducible first | refine Kd ?_ | refine Kn ?_ | refine Kb (by assumption) ?_) | ((with_reducible first | refine Kw ?_ ?_ | refine Fw ?_) <;> first | with_reducible rfl | (simp; done)) | (with_reducible first | refine Ka _ ?_ | refine Ks _ (by first | exact Nat.le_refl _ | omega | (simp; done) | (simp; omega)) ?_ | refine Fd ?_ | refine Fn ?_ | refine Fb (by assumption) (by first | exact Nat.le_refl _ | omega | (simp; done) | (simp; omega)) ?_ | refine Fa _ (by first | exact Nat.le_refl _ | omega | (simp; done) | (simp; omega)) ?_ | refine Fs _ ?_)))), (by (repeat' refine And.intro ?_ ?_) <;> (repeat (first | with_reducible assumption | (simp; done) | (with_reducible first | refine Kd ?_ | refine Kn ?_ | refine Kb (by assumption) ?_) | ((with_reducible first | refine Kw ?_ ?_ | refine Fw ?_) <;> first | with_reducible rfl | (simp; done)) | (with_reducible first | refine Ka _ ?_ | refine Ks _ (by first | exact Nat.le_refl _ | omega | (simp; done) | (simp; omega)) ?_ | refine Fd ?_ | refine Fn ?_ | refine Fb (by assumption) (by first | exact Nat.le_refl _ | omega | (simp; done) | (simp; omega)) ?_ | refine Fa _ (by first | exact Nat.le_refl _ | omega | (simp; done) | (simp; omega)) ?_ | refine Fs _ ?_))))⟩, (by repeat (first | (with_reducible first | exact Below.refl _ _ | assumption | refine Below.drew ?_) | ((with_reducible first | refine Lc ?_ ?_ _ | refine Ls ?_ ?_ _ | refine Lv (by assumption) ?_ ?_); · first | exact Nat.le_refl _ | omega | (dsimp only; omega) | (simp only [World.size_alloc, World.size_drew, World.heap_drewN]; omega) | (simp; omega)))), by simp⟩ ?_
  rintro w3 ⟨hx3, hb3, hs3⟩
  have HA3 := Lib.hid hx3
  have HR3 := Lib.hid (HR2.out.on hb3)
  have HX3 := Lib.hid ((HX2.out.below hb3).mono hb3.size)
  have HB3 := Lib.hid (HB2.out.trans (hb3.mono hs2))
  have hs3' := HB3.out.size
  obtain ⟨c0, c1, c2⟩ := hx3
  obtain ⟨rx, hrx⟩ : ∃ rx, rx = w2.heap.size := ⟨_, rfl⟩
  rw [← hrx] at HA3 hs3 c0 c1 c2
  rw [← hrx]
  clear hb3 HR2 HB2 HX2 hs2 hrx
  go_wp2_with fail
  refine (wrap_any i1 _ (by omega) _).mono ?_
  rintro e wz ⟨f, rfl, hf0, hf1, rfl⟩
  obtain ⟨f, rfl⟩ := Int.eq_ofNat_of_zero_le hf0
  have hfn : f < r.n := by omega
  have ew : IntKind.i64.wrap ((r.n : Int) - (f : Int)) = (r.n : Int) - (f : Int) := IntWalk.i64_in _ (by omega)
  clear hf0 hf1
  go_wp2_with fail
  refine (wrap_any i2 _ (by omega) _).mono ?_
  rintro e wz ⟨L, rfl, hL0, hL1, rfl⟩
  obtain ⟨L, rfl⟩ := Int.eq_ofNat_of_zero_le hL0
  have hfL : f + L < r.n := by omega
  obtain ⟨t, ht⟩ : ∃ t : Nat, t = f + L := ⟨_, rfl⟩
  have hft : f ≤ t := by omega
  have htn : t < r.n := by omega
  have ew2 : IntKind.i64.wrap ((f : Int) + (L : Int)) = (t : Int) := (IntWalk.i64_in _ (by omega)).trans (by omega)
  have hsp := made_span HMD.out hfL
  rw [← ht] at hsp
  clear hL0 hL1 ht hfL
  go_wp2_with fail
  refine (wid_any r HOK.out H0.out bA dA vA bc dc vc _ HR3.out).mono ?_
  rintro e w4 ⟨rfl, hb4⟩
  have HA4 := Lib.hid (HA3.out.later hb4)
  have HR4 := Lib.hid (HR3.out.on hb4)
  have HX4 := Lib.hid ((HX3.out.below hb4).mono hb4.size)
  have HB4 := Lib.hid (HB3.out.trans (hb4.mono hs3'))
  have hs4 := HB4.out.size
  clear hb4 HA3 HR3 HX3 HB3 c0 c1 c2 ew
  obtain ⟨c0, c1, c2⟩ := HA4.out
  have hask := Rw.ask_zero HOK.out H0.out hft htn
  have hset : r.settlesR (f : Int) (t : Int) = settled r.search.1.L f t r.n := by unfold Rw.settlesR; rw [if_pos hask]; rfl
  obtain ⟨mo, hmo⟩ : ∃ x, x = settled r.search.1.L f t r.n := ⟨_, rfl⟩
  rw [← hmo] at hset
  have HMO := Lib.hid hmo
  have HASK := Lib.hid hask
  have HSET := Lib.hid hset
  clear hask hset hmo
  go_wp2_with fail
  refine (Settles_any r (f : Int) (t : Int) bA dA vA bc dc vc _ HR4.out).mono ?_
  rintro e w5 ⟨rfl, hb5⟩
  rw [HASK.out, HSET.out]
  have HA5 := Lib.hid (HA4.out.later hb5)
  have HR5 := Lib.hid (HR4.out.on hb5)
  have HX5 := Lib.hid ((HX4.out.below hb5).mono hb5.size)
  have HB5 := Lib.hid (HB4.out.trans (hb5.mono hs4))
  have hs5 := HB5.out.size
  clear hb5 HA4 HR4 HX4 HB4 c0 c1 c2
  obtain ⟨c0, c1, c2⟩ := HA5.out
  go_wp2_with fail
  refine (Sum_any r (f : Int) (t : Int) bA dA vA bc dc vc _ HR5.out).mono ?_
  rintro e w6 ⟨rfl, hb6⟩
  rw [Rw.sumS_ok HASK.out, HASK.out]
  obtain ⟨⟨lo, hi⟩, hz⟩ : ∃ x, x = r.span f t := ⟨_, rfl⟩
  rw [← hz] at hsp ⊢
  have HL : Hid (lo = (r.span f t).a ∧ hi = (r.span f t).b) := Lib.hid (by rw [← hz]; exact ⟨rfl, rfl⟩)
  dsimp only at hsp ⊢
  have HA6 := Lib.hid (HA5.out.later hb6)
  have HR6 := Lib.hid (HR5.out.on hb6)
  have HX6 := Lib.hid ((HX5.out.below hb6).mono hb6.size)
  have HB6 := Lib.hid (HB5.out.trans (hb6.mono hs5))
  have hs6 := HB6.out.size
  clear hb6 HA5 HR5 HX5 HB5 c0 c1 c2 hz
  go_upto_region 10 with fail
  refine wp_world (fun w' => N2c w' w6.heap.size lo hi ∧ Below w6.heap.size w6 w' ∧ w6.heap.size + 1 ≤ w'.heap.size) ⟨⟨(by (repeat' refine And.intro ?_ ?_) <;> (repeat (first | with_reducible assumption | (simp; done) | (with_reducible first | refine Kd ?_ | refine Kn ?_ | refine Kb (by assumption) ?_) | ((with_reducible first | refine Kw ?_ ?_ | refine Fw ?_) <;> first | with_reducible rfl | (simp; done)) | (with_reducible first | refine Ka _ ?_ | refine Ks _ (by first | exact Nat.le_refl _ | omega | (simp; done) | (simp; omega)) ?_ | refine Fd ?_ | refine Fn ?_ | refine Fb (by assumption) (by first | exact Nat.le_refl _ | omega | (simp; done) | (simp; omega)) ?_ | refine Fa _ (by first | exact Nat.le_refl _ | omega | (simp; done) | (simp; omega)) ?_ | refine Fs _ ?_)))), (by (repeat' refine And.intro ?_ ?_) <;> (repeat (first | with_reducible assumption | (simp; done) | (with_reducible first | refine Kd ?_ | refine Kn ?_ | refine Kb (by assumption) ?_) | ((with_reducible first | refine Kw ?_ ?_ | refine Fw ?_) <;> first | with_reducible rfl | (simp; done)) | (with_reducible first | refine Ka _ ?_ | refine Ks _ (by first | exact Nat.le_refl _ | omega | (simp; done) | (simp; omega)) ?_ | refine Fd ?_ | refine Fn ?_ | refine Fb (by assumption) (by first | exact Nat.le_refl _ | omega | (simp; done) | (simp; omega)) ?_ | refine Fa _ (by first | exact Nat.le_refl _ | omega | (simp; done) | (simp; omega)) ?_ | refine Fs _ ?_))))⟩, (by repeat (first | (with_reducible first | exact Below.refl _ _ | assumption | refine Below.drew ?_) | ((with_reducible first | refine Lc ?_ ?_ _ | refine Ls ?_ ?_ _ | refine Lv (by assumption) ?_ ?_); · first | exact Nat.le_refl _ | omega | (dsimp only; omega) | (simp only [World.size_alloc, World.size_drew, World.heap_drewN]; omega) | (simp; omega)))), by simp⟩ ?_
  rintro w7 ⟨hp7, hb7, hs7⟩
  have HP7 := Lib.hid hp7
  have HA7 := Lib.hid (HA6.out.later hb7)
  have HR7 := Lib.hid (HR6.out.on hb7)
  have HX7 := Lib.hid ((HX6.out.below hb7).mono hb7.size)
  have HB7 := Lib.hid (HB6.out.trans (hb7.mono hs6))
  have hs7' := HB7.out.size
  obtain ⟨sx, hsx⟩ : ∃ x, x = w6.heap.size := ⟨_, rfl⟩
  rw [← hsx] at HP7 hs7
  rw [← hsx]
  clear hp7 hb7 HA6 HR6 HX6 HB6 hsx
  obtain ⟨c0, c1, c2⟩ := HA7.out
  go_wp2_with fail
  refine (Next_any r bA dA vA bc dc vc _ HR7.out).mono ?_
  rintro e w8 ⟨rfl, hb8⟩
  rw [Rw.fit_zero HOK.out H0.out]
  obtain ⟨hn1', hn2', hn3', hn4'⟩ := Rw.next_good HOK.out H0.out
  have hnl := hn4' f t hft htn
  obtain ⟨a, ha⟩ : ∃ x, x = r.nextR.1 := ⟨_, rfl⟩
  obtain ⟨b, hb⟩ : ∃ x, x = r.nextR.2.1 := ⟨_, rfl⟩
  obtain ⟨le, hle⟩ : ∃ x, x = r.nextR.2.2 := ⟨_, rfl⟩
  rw [← ha, ← hb, ← hle] at hn3'
  rw [← ha, ← hb] at hn1'
  rw [← hb] at hn2'
  rw [← hle, ← HMO.out] at hnl
  rw [← ha, ← hb, ← hle]
  have hbd := settled_bd HOK.out (Rw.fin_nil HOK.out H0.out) (f := f) (t := t) (by omega) htn
  rw [← HMO.out] at hbd
  have hwd : r.wid = widO r.search.1.L r.n := rfl
  rw [← hwd] at hbd
  have hask2 := Rw.ask_zero HOK.out H0.out hn1' hn2'
  have hset2 : r.settlesR (a : Int) (b : Int) = le := by unfold Rw.settlesR; rw [if_pos hask2]; exact hn3'.symm
  have HASK2 := Lib.hid hask2
  have HSET2 := Lib.hid hset2
  have HA8 := Lib.hid (HA7.out.later hb8)
  have HR8 := Lib.hid (HR7.out.on hb8)
  have HX8 := Lib.hid ((HX7.out.below hb8).mono hb8.size)
  have HP8 := Lib.hid (HP7.out.later hb8)
  have HB8 := Lib.hid (HB7.out.trans (hb8.mono hs7'))
  have hs8 := HB8.out.size
  have g1 : ¬ r.wid < mo := by omega
  have g2 : ¬ mo < 0 := by omega
  have g3 : ¬ mo < le := by omega
  have g4 : ¬ (a : Int) < 0 := by omega
  have g5 : ¬ (b : Int) < (a : Int) := by omega
  have g6 : ¬ (r.n : Int) ≤ (b : Int) := by omega
  have g7 : ¬ 400 < hi - lo := by omega
  have g8 : IntKind.i64.wrap (hi - lo) = hi - lo := IntWalk.i64_in _ (by omega)
  obtain ⟨p0, p1⟩ := HP8.out
  clear hb8 HA7 HR7 HX7 HP7 HB7 hn3' hn4' ha hb hle hwd hask2 hset2 c0 c1 c2
  go_upto_region 13 with fail
  clear g1 g2 g3 g4 g5 g6 g7 g8 p0 p1
  obtain ⟨c0, c1, c2⟩ := HA8.out
  go_wp2_with fail
  refine (Settles_any r (a : Int) (b : Int) bA dA vA bc dc vc _ HR8.out).mono ?_
  rintro e w9 ⟨rfl, hb9⟩
  rw [HASK2.out, HSET2.out]
  have HA9 := Lib.hid (HA8.out.later hb9)
  have HR9 := Lib.hid (HR8.out.on hb9)
  have HX9 := Lib.hid ((HX8.out.below hb9).mono hb9.size)
  have HP9 := Lib.hid (HP8.out.later hb9)
  have HB9 := Lib.hid (HB8.out.trans (hb9.mono hs8))
  have hs9 := HB9.out.size
  have hnn : (le != le) = false := by simp
  clear hb9 HA8 HR8 HX8 HP8 HB8 c0 c1 c2
  obtain ⟨p0, p1⟩ := HP9.out
  have hn6 : r.n ≤ 6 := by omega
  have hlh : 0 ≤ lo ∧ lo ≤ hi ∧ hi ≤ 2100 ∧ hi - lo ≤ 128 := by omega
  go_upto_block 0 with fail
  refine settled_loop1 r HOK H0 hd1 hm4 hn6 f t hft htn rx sx lo hi HL hlh bA dA vA bc dc vc w9 HR9 HA9 HP9 _ ?_
  intro x6 x26 x27 x28 x145 x146 x147 x148 x149 x150 x151 x152 x153 x154 x155 x156 x157 x158 x159 x160 x161 x162 x163 x164 x165 x166 w10 HW
  have HA10 := Lib.hid (HA9.out.later HW.out)
  have HR10 := Lib.hid (HR9.out.on HW.out)
  have HX10 := Lib.hid ((HX9.out.below HW.out).mono HW.out.size)
  have HB10 := Lib.hid (HB9.out.trans (HW.out.mono hs9))
  have hs10 := HB10.out.size
  rw [← HMO.out]
  clear HW HA9 HR9 HX9 HP9 HB9 p0 p1
  obtain ⟨c0, c1, c2⟩ := HA10.out
  go_wp2_with fail
  refine (own2_any r hn1 hd1 bA dA vA bc dc vc _ HR10.out).mono ?_
  intro e w11 hpost
  obtain ⟨c, rfl, hc, hcs, hce, hb11⟩ := CpAt.of hn1 hd1 hpost
  have HC11 := Lib.hid hc
  have HX11 := Lib.hid ((HX10.out.below hb11).mono hb11.size)
  have HB11 := Lib.hid (HB10.out.trans (hb11.mono hs10))
  have hs11 := HB11.out.size
  have hce' : c.e ≤ w11.heap.size := by omega
  clear hpost hc hcs hce hb11 HX10 HR10 HB10 HA10 c0 c1 c2
  go_upto_region 25 with fail
  refine wp_world (fun w' => V3 w' w11.heap.size (.slice c.bA r.n c.bc) (.slice c.dA r.d c.dc) (.slice c.vA r.m c.vc) ∧ Below w11.heap.size w11 w' ∧ w11.heap.size + 1 ≤ w'.heap.size) ⟨⟨(by (repeat' refine And.intro ?_ ?_) <;> (repeat (first | with_reducible assumption | (simp; done) | (with_reducible first | refine Kd ?_ | refine Kn ?_ | refine Kb (by assumption) ?_) | ((with_reducible first | refine Kw ?_ ?_ | refine Fw ?_) <;> first | with_reducible rfl | (simp; done)) | (with_reducible first | refine Ka _ ?_ | refine Ks _ (by first | exact Nat.le_refl _ | omega | (simp; done) | (simp; omega)) ?_ | refine Fd ?_ | refine Fn ?_ | refine Fb (by assumption) (by first | exact Nat.le_refl _ | omega | (simp; done) | (simp; omega)) ?_ | refine Fa _ (by first | exact Nat.le_refl _ | omega | (simp; done) | (simp; omega)) ?_ | refine Fs _ ?_)))), (by (repeat' refine And.intro ?_ ?_) <;> (repeat (first | with_reducible assumption | (simp; done) | (with_reducible first | refine Kd ?_ | refine Kn ?_ | refine Kb (by assumption) ?_) | ((with_reducible first | refine Kw ?_ ?_ | refine Fw ?_) <;> first | with_reducible rfl | (simp; done)) | (with_reducible first | refine Ka _ ?_ | refine Ks _ (by first | exact Nat.le_refl _ | omega | (simp; done) | (simp; omega)) ?_ | refine Fd ?_ | refine Fn ?_ | refine Fb (by assumption) (by first | exact Nat.le_refl _ | omega | (simp; done) | (simp; omega)) ?_ | refine Fa _ (by first | exact Nat.le_refl _ | omega | (simp; done) | (simp; omega)) ?_ | refine Fs _ ?_)))), (by (repeat' refine And.intro ?_ ?_) <;> (repeat (first | with_reducible assumption | (simp; done) | (with_reducible first | refine Kd ?_ | refine Kn ?_ | refine Kb (by assumption) ?_) | ((with_reducible first | refine Kw ?_ ?_ | refine Fw ?_) <;> first | with_reducible rfl | (simp; done)) | (with_reducible first | refine Ka _ ?_ | refine Ks _ (by first | exact Nat.le_refl _ | omega | (simp; done) | (simp; omega)) ?_ | refine Fd ?_ | refine Fn ?_ | refine Fb (by assumption) (by first | exact Nat.le_refl _ | omega | (simp; done) | (simp; omega)) ?_ | refine Fa _ (by first | exact Nat.le_refl _ | omega | (simp; done) | (simp; omega)) ?_ | refine Fs _ ?_)))), (by (repeat' refine And.intro ?_ ?_) <;> (repeat (first | with_reducible assumption | (simp; done) | (with_reducible first | refine Kd ?_ | refine Kn ?_ | refine Kb (by assumption) ?_) | ((with_reducible first | refine Kw ?_ ?_ | refine Fw ?_) <;> first | with_reducible rfl | (simp; done)) | (with_reducible first | refine Ka _ ?_ | refine Ks _ (by first | exact Nat.le_refl _ | omega | (simp; done) | (simp; omega)) ?_ | refine Fd ?_ | refine Fn ?_ | refine Fb (by assumption) (by first | exact Nat.le_refl _ | omega | (simp; done) | (simp; omega)) ?_ | refine Fa _ (by first | exact Nat.le_refl _ | omega | (simp; done) | (simp; omega)) ?_ | refine Fs _ ?_)))), (by (repeat' refine And.intro ?_ ?_) <;> (repeat (first | with_reducible assumption | (simp; done) | (with_reducible first | refine Kd ?_ | refine Kn ?_ | refine Kb (by assumption) ?_) | ((with_reducible first | refine Kw ?_ ?_ | refine Fw ?_) <;> first | with_reducible rfl | (simp; done)) | (with_reducible first | refine Ka _ ?_ | refine Ks _ (by first | exact Nat.le_refl _ | omega | (simp; done) | (simp; omega)) ?_ | refine Fd ?_ | refine Fn ?_ | refine Fb (by assumption) (by first | exact Nat.le_refl _ | omega | (simp; done) | (simp; omega)) ?_ | refine Fa _ (by first | exact Nat.le_refl _ | omega | (simp; done) | (simp; omega)) ?_ | refine Fs _ ?_)))), (by (repeat' refine And.intro ?_ ?_) <;> (repeat (first | with_reducible assumption | (simp; done) | (with_reducible first | refine Kd ?_ | refine Kn ?_ | refine Kb (by assumption) ?_) | ((with_reducible first | refine Kw ?_ ?_ | refine Fw ?_) <;> first | with_reducible rfl | (simp; done)) | (with_reducible first | refine Ka _ ?_ | refine Ks _ (by first | exact Nat.le_refl _ | omega | (simp; done) | (simp; omega)) ?_ | refine Fd ?_ | refine Fn ?_ | refine Fb (by assumption) (by first | exact Nat.le_refl _ | omega | (simp; done) | (simp; omega)) ?_ | refine Fa _ (by first | exact Nat.le_refl _ | omega | (simp; done) | (simp; omega)) ?_ | refine Fs _ ?_))))⟩, (by repeat (first | (with_reducible first | exact Below.refl _ _ | assumption | refine Below.drew ?_) | ((with_reducible first | refine Lc ?_ ?_ _ | refine Ls ?_ ?_ _ | refine Lv (by assumption) ?_ ?_); · first | exact Nat.le_refl _ | omega | (dsimp only; omega) | (simp only [World.size_alloc, World.size_drew, World.heap_drewN]; omega) | (simp; omega)))), by simp⟩ ?_
  rintro w12 ⟨hv12, hb12, hs12⟩
  have HBX := Lib.hid (show CpBox w12 r c w11.heap.size from ⟨HC11.out.keep (fun i h1 h2 => hb12.block i (by omega)) hb12.size, hv12⟩)
  have HX12 := Lib.hid (HX11.out.below hb12)
  have HB12 := Lib.hid (HB11.out.trans (hb12.mono hs11))
  obtain ⟨ax, hax⟩ : ∃ x, x = w11.heap.size := ⟨_, rfl⟩
  rw [← hax] at HBX HX12 hs12 hce' hs11
  rw [← hax]
  have HAL : Hid (AlAt w12 ax r) := Lib.hid (by
    have hk := HBX.out
    refine ⟨c.bA, c.dA, c.vA, c.bc, c.dc, c.vc, hk.bx, ⟨Nat.le_refl _, hk.cp.b.row, hk.cp.d.row, ?_, by omega, by have := HOK.out.d7; omega, by omega, hk.cp.cap.1, hk.cp.cap.2.1, hk.cp.cap.2.2⟩, ?_⟩
    · obtain ⟨A, c', e0, ho, hvc⟩ := OwnWg.of hk.cp.v
      injection e0 with e1 e2 e3
      rw [e1]
      exact ho.row
    · rintro a (h | h | h)
      · have := hk.cp.bl a h
        omega
      · have := hk.cp.dl a h
        omega
      · rcases hk.cp.v.2 with ⟨e0, _⟩ | ⟨g, cap, cur, e0, _⟩
        · injection e0 with e1 e2 e3
          rw [h] at e1
          exact absurd e1 (by simp)
        · have hvg := hk.cp.vl g (by rw [e0]; rfl)
          injection e0 with e1 e2 e3
          rw [h] at e1
          injection e1 with e1
          rw [e1]
          dsimp only
          omega)
  clear hv12 hb12 hax HC11 HX11 HB11 HBX
  go_upto_block 2 with fail
  refine settled_loop2 r HOK hd1 hm4 hn4 X (Lib.hid HMD.out.fits) (Lib.hid (fun k hk => by have h1 := HMD.out.x k hk; have h2 := Rw.sp_bd HOK.out hk; omega)) ax xA xc w12 HX12 HAL _ ?_
  intro x30 x31 x171 x172 x173 x174 x175 x176 x177 x178 x179 x180 x181 x182 w13 HW HAL2
  have HB13 := Lib.hid (HB12.out.trans (HW.out.mono hs11))
  have hs13 := HB13.out.size
  have hall := Rw.alls_wid HOK.out HMD.out.fits (fun k hk => by have h1 := HMD.out.x k hk; have h2 := Rw.sp_bd HOK.out hk; omega) (by omega)
  have hoka := (Rw.alls_ok HOK.out HMD.out.fits (fun k hk => by have h1 := HMD.out.x k hk; have h2 := Rw.sp_bd HOK.out hk; omega) r.n (Nat.le_refl _) (by omega)).1
  obtain ⟨R, hR⟩ : ∃ R, R = r.alls X r.n := ⟨_, rfl⟩
  rw [← hR] at HAL2 hall hoka
  obtain ⟨bA', dA', vA', bc', dc', vc', hv, hrw, -⟩ := HAL2.out
  have HRW := Lib.hid hrw
  have HOA := Lib.hid hoka
  have HALL := Lib.hid hall
  obtain ⟨c0, c1, c2, -, -, -⟩ := hv
  clear HW HAL HAL2 HB12 HX12 hall hoka hR hrw
  go_wp2_with fail
  refine (wid_any R HOA.out HALL.out.1 bA' dA' vA' bc' dc' vc' _ HRW.out).mono ?_
  rintro e w14 ⟨rfl, hb14⟩
  rw [HALL.out.2]
  have HB14 := Lib.hid (HB13.out.trans (hb14.mono hs13))
  have hs14 := HB14.out.size
  have hee : (mo == mo) = true := by simp
  clear hb14 c0 c1 c2
  go_wp2_with fail
  refine (awake_any _).mono ?_
  rintro e wc ⟨rfl, hb⟩
  have Hc := Lib.hid (HB14.out.trans (hb.mono hs14))
  clear hb
  go_wp2_with fail
  go_ret
  exact ⟨rfl, Hc.out⟩
end Go.Proofs.Ytnnikeolgknfoaa
