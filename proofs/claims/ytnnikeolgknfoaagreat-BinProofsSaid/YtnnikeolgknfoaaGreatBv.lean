/- desk.settles, bin.Settles, bin.Next. -/
import Derived.Test.YtnnikeolgknfoaaGreatBu
set_option linter.unusedSimpArgs false
set_option linter.unusedVariables false
namespace Go.Proofs.YtnnikeolgknfoaaGreat
open Go.RowKit Go.Shelf

/-- the greatest width for so many results -/
def settlesN (L : Nat → Nat → Int) (f t n : Nat) : Nat → Int
  | 0 => 0
  | k + 1 => max (settlesN L f t n k) (widthN L f t (-L (t + 1) f + k) n)
theorem settlesN_bd {L : Nat → Nat → Int} {n f t : Nat} (hn : n ≤ 6) (hL : LBd L n) (hf : f < n) (ht : t < n) : ∀ k : Nat, (k : Int) ≤ L f (t + 1) + L (t + 1) f + 1 → 0 ≤ settlesN L f t n k ∧ settlesN L f t n k ≤ 120000
  | 0, _ => by simp [settlesN]
  | k + 1, hk => by
    have ih := settlesN_bd hn hL hf ht k (by omega)
    have h1 := hL f (t + 1) (by omega) (by omega)
    have h2 := hL (t + 1) f (by omega) (by omega)
    have h3 := widthN_bd (p := -L (t + 1) f + k) hL hf ht (by omega) n (Nat.le_refl _)
    unfold settlesN
    omega
def settled (L : Nat → Nat → Int) (f t n : Nat) : Int := settlesN L f t n (L f (t + 1) + L (t + 1) f + 1).toNat
set_option maxRecDepth 100000 in
set_option maxHeartbeats 4000000 in
theorem settles_any (r : Rw) (hn : r.n ≤ 6) (S : Sk) (hL : LBd S.L r.n) (f t : Nat) (hf : f < r.n) (ht : t < r.n) (hpos : 0 ≤ S.L f (t + 1) + S.L (t + 1) f) (db : Nat) (bA dA vA : Option Addr) (bc dc vc : Nat) (W : World) (hd : RwAt W db r bA bc dA dc vA vc) (hl : LsAt W db r.n S.L) :
    Calls Tryz.prog 95 #[.pointer (some ⟨db, 0, none⟩), .int .i64 f, .int .i64 t] W fun e W' => e = .returned (.int .i64 (settled S.L f t r.n)) ∧ Below W.heap.size W W' := by
  have HL := Lib.hid hL
  have HLS := Lib.hid hl
  have HD := Lib.hid hd
  have hlt := hd.lt
  have b1 := hL f (t + 1) (by omega) (by omega)
  have b2 := hL (t + 1) f (by omega) (by omega)
  clear hL hd hl
  go_enter Tryz.func95, Tryz.ntmps95
  go_wp2_with fail
  refine (dspan_any r hn S f t hf ht (by omega) db _ HLS.out).mono ?_
  rintro e w1 ⟨rfl, hb1⟩
  have HB1 := Lib.hid hb1
  have HD1 := Lib.hid (HD.out.later hb1)
  have HL1 := Lib.hid (HLS.out.same (hb1.block _ hlt))
  have hs1 := hb1.size
  obtain ⟨m, hm⟩ := Int.eq_ofNat_of_zero_le (a := S.L f (t + 1) + S.L (t + 1) f + 1) (by omega)
  have HV : Hid (settled S.L f t r.n = settlesN S.L f t r.n m) := Lib.hid (by unfold settled; rw [hm]; rfl)
  obtain ⟨x, hx⟩ : ∃ x, x = -S.L (t + 1) f := ⟨_, rfl⟩
  obtain ⟨y, hy⟩ : ∃ y, y = S.L f (t + 1) := ⟨_, rfl⟩
  have hxm : y - x + 1 = (m : Int) := by omega
  rw [← hx, ← hy]
  have e1 : IntKind.i64.wrap (y - x) = y - x := IntWalk.i64_in _ (by omega)
  have e2 : IntKind.i64.wrap (y - x + 1) = (m : Int) := by rw [hxm]; exact IntWalk.i64_in _ (by omega)
  have HX := Lib.hid hx
  have hxb : -2100 ≤ x ∧ x ≤ 2100 := by omega
  have hyb : -2100 ≤ y ∧ y ≤ 2100 := by omega
  have HM := Lib.hid hm
  have hm' : (m : Int) ≤ 4201 := by omega
  have HXM := Lib.hid hxm
  clear hb1 hx hy hm hxm b1 b2 hpos HD HLS
  go_upto_region 3 with fail
  refine wp_world (fun W2 => W2.cell? ⟨w1.heap.size, 0, none⟩ = some (.int .i64 x) ∧ W2.cell? ⟨w1.heap.size, 1, none⟩ = some (.int .i64 y) ∧ Below w1.heap.size w1 W2) ⟨(by (repeat' refine And.intro ?_ ?_) <;> (repeat (first | with_reducible assumption | (simp; done) | (with_reducible first | refine Kd ?_ | refine Kn ?_ | refine Kb (by assumption) ?_) | ((with_reducible first | refine Kw ?_ ?_ | refine Fw ?_) <;> first | with_reducible rfl | (simp; done)) | (with_reducible first | refine Ka _ ?_ | refine Ks _ (by first | exact Nat.le_refl _ | omega | (simp; done) | (simp; omega)) ?_ | refine Fd ?_ | refine Fn ?_ | refine Fb (by assumption) (by first | exact Nat.le_refl _ | omega | (simp; done) | (simp; omega)) ?_ | refine Fa _ (by first | exact Nat.le_refl _ | omega | (simp; done) | (simp; omega)) ?_ | refine Fs _ ?_)))), (by (repeat' refine And.intro ?_ ?_) <;> (repeat (first | with_reducible assumption | (simp; done) | (with_reducible first | refine Kd ?_ | refine Kn ?_ | refine Kb (by assumption) ?_) | ((with_reducible first | refine Kw ?_ ?_ | refine Fw ?_) <;> first | with_reducible rfl | (simp; done)) | (with_reducible first | refine Ka _ ?_ | refine Ks _ (by first | exact Nat.le_refl _ | omega | (simp; done) | (simp; omega)) ?_ | refine Fd ?_ | refine Fn ?_ | refine Fb (by assumption) (by first | exact Nat.le_refl _ | omega | (simp; done) | (simp; omega)) ?_ | refine Fa _ (by first | exact Nat.le_refl _ | omega | (simp; done) | (simp; omega)) ?_ | refine Fs _ ?_)))), (by repeat (first | (with_reducible first | exact Below.refl _ _ | assumption | refine Below.drew ?_) | ((with_reducible first | refine Lc ?_ ?_ _ | refine Ls ?_ ?_ _ | refine Lv (by assumption) ?_ ?_); · first | exact Nat.le_refl _ | omega | (dsimp only; omega) | (simp only [World.size_alloc, World.size_drew, World.heap_drewN]; omega) | (simp; omega))))⟩ ?_
  rintro w2 ⟨c0, c1, hb2⟩
  have HC := Lib.hid c0
  have HD2 := Lib.hid (HD1.out.later hb2)
  have HL2 := Lib.hid (HL1.out.same (hb2.block _ (by omega)))
  have HB2 := Lib.hid (HB1.out.trans (hb2.mono hs1))
  have hs2 := hb2.size
  clear hb2 HD1 HL1 HB1
  go_wp2_with fail
  clear c0 c1 e1 e2
  go_loopw [7, 20] (fun v i wr => ∃ k : Nat, k ≤ m ∧ i = .int .i64 k ∧ v = .int .i64 (settlesN S.L f t r.n k) ∧ Hid (wr.cell? ⟨w1.heap.size, 0, none⟩ = some (.int .i64 x)) ∧ Hid (RwAt wr db r bA bc dA dc vA vc) ∧ Hid (LsAt wr db r.n S.L) ∧ Hid (Below W.heap.size W wr)) (fun _ i _ => m - (intOf i).toNat)
  case atStart => exact ⟨0, Nat.zero_le _, rfl, rfl, HC, HD2, HL2, HB2⟩
  case round =>
    clear HC HD2 HL2 HB2
    obtain ⟨k, hk, rfl, rfl, HC, HD, HLS, HB⟩ := hrel
    by_cases hkm : k < m
    · have hkn : (k : Int) < (m : Int) := by omega
      have hk0 : (0 : Int) ≤ (k : Int) := by omega
      have ek : IntKind.i64.wrap ((k : Int) + 1) = (k : Int) + 1 := IntWalk.i64_in _ (by omega)
      have ex : IntKind.i64.wrap (x + (k : Int)) = x + (k : Int) := IntWalk.i64_in _ (by omega)
      have hxk : x + (k : Int) ≤ 2100 := by have := HXM.out; omega
      obtain ⟨wo, rfl⟩ : ∃ wo, wo = wr := ⟨_, rfl⟩
      have c0 := HC.out
      have hdl := HD.out.lt
      go_wp2_with fail
      refine (width_any r hn S.L HL.out f t (x + (k : Int)) hf ht (by omega) db bA dA vA bc dc vc _ HD.out HLS.out).mono ?_
      rintro e w3 ⟨rfl, hb3⟩
      have HC3 := Lib.hid (Kb hb3 HC.out)
      have HD3 := Lib.hid (HD.out.later hb3)
      have HL3 := Lib.hid (HLS.out.same (hb3.block _ hdl))
      have HB3 := Lib.hid (HB.out.trans (hb3.mono HB.out.size))
      have HS : Hid (settlesN S.L f t r.n (k + 1) = max (settlesN S.L f t r.n k) (widthN S.L f t (x + k) r.n)) := Lib.hid (by rw [HX.out]; rfl)
      obtain ⟨p, hp⟩ : ∃ p, p = settlesN S.L f t r.n k := ⟨_, rfl⟩
      obtain ⟨q, hq⟩ : ∃ q, q = widthN S.L f t (x + k) r.n := ⟨_, rfl⟩
      rw [← hp, ← hq] at HS
      rw [← hp, ← hq]
      clear hp hq c0 hb3 HC HD HLS HB
      go_wp2_with fail
      go_roundw
      case rel => exact ⟨k + 1, by omega, by go_num, by rw [HS.out], HC3, HD3, HL3, HB3⟩
      case measure => simp [intOf]; omega
    · obtain rfl : k = m := by omega
      have hge : ¬ (k : Int) < (k : Int) := by omega
      go_wp2_with fail
      go_ret
      exact ⟨by rw [HV.out]; rfl, HB.out⟩

theorem Fin.bd {r : Rw} {L : Nat → Nat → Int} {F : Nat → Nat → Fc} (h : Fin r L F) : LBd L r.n := fun a b ha hb => h.d a b ha hb
theorem Fin.pos {r : Rw} {L : Nat → Nat → Int} {F : Nat → Nat → Fc} (h : Fin r L F) {f t : Nat} (hf : f ≤ r.n) (ht : t ≤ r.n) : 0 ≤ L f t + L t f := by
  have h1 := h.t f f t hf hf ht
  have h2 := h.z f hf
  omega
/-- the width that can be left, or the error -/
def Rw.settlesR (r : Rw) (f t : Int) : Int := if r.askErr f t = 0 then settled r.search.1.L f.toNat t.toNat r.n else 0
set_option maxRecDepth 100000 in
set_option maxHeartbeats 4000000 in
theorem Settles_any (r : Rw) (f t : Int) (bA dA vA : Option Addr) (bc dc vc : Nat) (W : World) (hrow : RwRow W W.heap.size r bA bc dA dc vA vc) :
    Calls Tryz.prog 27 #[rwV bA r.n bc dA r.d dc vA r.m vc, .int .i64 f, .int .i64 t] W fun e W' => e = .returned (.tuple #[.int .i64 (r.settlesR f t), .int .i64 (r.askErr f t)]) ∧ Below W.heap.size W W' := by
  have H0 := Lib.hid hrow
  clear hrow
  go_enter Tryz.func27, Tryz.ntmps27
  go_wp2_with fail
  refine (asked_any r f t bA dA vA bc dc vc _ ((H0.out.later (by repeat (first | (with_reducible first | exact Below.refl _ _ | assumption | refine Below.drew ?_) | ((with_reducible first | refine Lc ?_ ?_ _ | refine Ls ?_ ?_ _ | refine Lv (by assumption) ?_ ?_); · first | exact Nat.le_refl _ | omega | (dsimp only; omega) | (simp only [World.size_alloc, World.size_drew, World.heap_drewN]; omega) | (simp; omega))))).up (by first | exact Nat.le_refl _ | omega | (simp; done) | (simp; omega) | (simp at *; omega)) (by first | exact Nat.le_refl _ | omega | (simp; done) | (simp; omega) | (simp at *; omega)))).mono ?_
  rintro e w1 (⟨h0, db, A, c, rfl, hdb, hd, ho, hb1⟩ | ⟨h0, rfl, hb1⟩)
  · have HB1 := Lib.hid (show Below W.heap.size W w1 from (by repeat (first | (with_reducible first | exact Below.refl _ _ | refine Below.drew ?_ | refine below_drewN ?_ _) | ((with_reducible first | refine Lc ?_ ?_ _ | refine Ls ?_ ?_ _ | refine Lv (by assumption) ?_ ?_); · first | exact Nat.le_refl _ | omega | (simp; done) | (simp; omega) | (simp at *; omega)))))
    obtain ⟨hok, hf0, hft, htn, hrd⟩ := Rw.ask_ok h0
    obtain ⟨f', rfl⟩ := Int.eq_ofNat_of_zero_le hf0
    obtain ⟨t', rfl⟩ := Int.eq_ofNat_of_zero_le (by omega : 0 ≤ t)
    have hfin := Rw.fin_of hok hrd
    have HFI := Lib.hid hfin
    have hn6 := hok.n6
    have HV : Hid (r.settlesR (f' : Int) (t' : Int) = settled r.search.1.L f' t' r.n) := Lib.hid (by unfold Rw.settlesR; rw [if_pos h0]; rfl)
    have HD := Lib.hid hd
    have HE := Lib.hid h0
    clear h0 hd ho hb1 hok hfin hrd hf0
    go_wp2_with fail
    refine (settles_any r hn6 r.search.1 HFI.out.bd f' t' (by omega) (by omega) (HFI.out.pos (by omega) (by omega)) db bA dA vA bc dc vc _ (HD.out.later (by repeat (first | (with_reducible first | exact Below.refl _ _ | assumption | refine Below.drew ?_) | ((with_reducible first | refine Lc ?_ ?_ _ | refine Ls ?_ ?_ _ | refine Lv (by assumption) ?_ ?_); · first | exact Nat.le_refl _ | omega | (dsimp only; omega) | (simp only [World.size_alloc, World.size_drew, World.heap_drewN]; omega) | (simp; omega))))).a.a (HD.out.later (by repeat (first | (with_reducible first | exact Below.refl _ _ | assumption | refine Below.drew ?_) | ((with_reducible first | refine Lc ?_ ?_ _ | refine Ls ?_ ?_ _ | refine Lv (by assumption) ?_ ?_); · first | exact Nat.le_refl _ | omega | (dsimp only; omega) | (simp only [World.size_alloc, World.size_drew, World.heap_drewN]; omega) | (simp; omega))))).l).mono ?_
    rintro e w2 ⟨rfl, hb2⟩
    have HB2 := Lib.hid (HB1.out.trans ((show Below w1.heap.size w1 w2 from (by repeat (first | (with_reducible first | exact Below.refl _ _ | assumption | refine Below.drew ?_) | ((with_reducible first | refine Lc ?_ ?_ _ | refine Ls ?_ ?_ _ | refine Lv (by assumption) ?_ ?_); · first | exact Nat.le_refl _ | omega | (dsimp only; omega) | (simp only [World.size_alloc, World.size_drew, World.heap_drewN]; omega) | (simp; omega))))).mono HB1.out.size))
    clear hb2 HB1
    go_wp2_with fail
    go_ret2
    exact ⟨by rw [HV.out, HE.out]; rfl, HB2.out⟩
  · have HB1 := Lib.hid (show Below W.heap.size W w1 from (by repeat (first | (with_reducible first | exact Below.refl _ _ | refine Below.drew ?_ | refine below_drewN ?_ _) | ((with_reducible first | refine Lc ?_ ?_ _ | refine Ls ?_ ?_ _ | refine Lv (by assumption) ?_ ?_); · first | exact Nat.le_refl _ | omega | (simp; done) | (simp; omega) | (simp at *; omega)))))
    have hne : (r.askErr f t != 0) = true := by simpa using h0
    have HV : Hid (r.settlesR f t = 0) := Lib.hid (by unfold Rw.settlesR; rw [if_neg h0])
    clear h0 hb1
    go_wp2_with fail
    go_ret2
    exact ⟨by rw [HV.out]; rfl, HB1.out⟩
end Go.Proofs.YtnnikeolgknfoaaGreat
