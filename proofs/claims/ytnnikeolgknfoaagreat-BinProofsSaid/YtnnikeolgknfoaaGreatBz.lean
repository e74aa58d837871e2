/- bin.Until. -/
import Derived.Test.YtnnikeolgknfoaaGreatBy
import Derived.Test.YtnnikeolgknfoaaGreatBs
set_option linter.unusedSimpArgs false
set_option linter.unusedVariables false
namespace Go.Proofs.YtnnikeolgknfoaaGreat
open Go.RowKit Go.Shelf

/-- the error of Until -/
def Rw.untilErr (r : Rw) (b k mo : Int) : Int :=
  if r.check ≠ 0 then r.check else if r.binsErr b b ≠ 0 ∨ inB k 0 2 = false then 2 else if inB mo 0 3000 = false then 4 else if r.round.length = 0 then 0 else 7
def Rw.untilS (r : Rw) (b k mo : Int) : Sp := if r.untilErr b k mo = 0 then
  ⟨untilR (r.span b.toNat b.toNat).b ((r.B b.toNat).hi k.toNat) mo, untilR (r.span b.toNat b.toNat).a ((r.B b.toNat).lo k.toNat) mo⟩ else ⟨0, 0⟩
/-- Until at work -/
structure UnX (W w : World) (db xb : Nat) (r : Rw) (b k mo : Int) (bA : Option Addr) (bc : Nat) (dA : Option Addr) (dc : Nat) (vA : Option Addr) (vc : Nat) (v : Value) : Prop where
  a0 : w.cell? ⟨W.heap.size, 0, none⟩ = some (.slice bA r.n bc)
  b0 : w.cell? ⟨W.heap.size + 1, 0, none⟩ = some (.int .i64 b)
  k0 : w.cell? ⟨W.heap.size + 1 + 1, 0, none⟩ = some (.int .i64 k)
  m0 : w.cell? ⟨W.heap.size + 1 + 1 + 1, 0, none⟩ = some (.int .i64 mo)
  r0 : w.cell? ⟨W.heap.size + 1 + 1 + 1 + 1, 0, none⟩ = some (.int .i64 0)
  r1 : w.cell? ⟨W.heap.size + 1 + 1 + 1 + 1, 1, none⟩ = some (.int .i64 0)
  f0 : w.frozen? ⟨W.heap.size + 1 + 1 + 1 + 1, 0, none⟩ = false
  f1 : w.frozen? ⟨W.heap.size + 1 + 1 + 1 + 1, 1, none⟩ = false
  xd : w.cell? ⟨xb, 0, none⟩ = some (.pointer (some ⟨db, 0, none⟩))
  d : DkAt w W.heap.size db r r.search.1 bA bc dA dc vA vc v
  bel : Below W.heap.size W w
theorem UnX.later {W w w' : World} {db xb : Nat} {r : Rw} {b k mo : Int} {bA : Option Addr} {bc : Nat} {dA : Option Addr} {dc : Nat} {vA : Option Addr} {vc : Nat} {v : Value} (h : UnX W w db xb r b k mo bA bc dA dc vA vc v) (hb : Below w.heap.size w w') : UnX W w' db xb r b k mo bA bc dA dc vA vc v :=
  ⟨Kb hb h.a0, Kb hb h.b0, Kb hb h.k0, Kb hb h.m0, Kb hb h.r0, Kb hb h.r1, fro_below_cell hb h.r0 h.f0, fro_below_cell hb h.r1 h.f1, Kb hb h.xd, h.d.later hb, h.bel.trans (hb.mono h.bel.size)⟩

set_option maxRecDepth 100000 in
set_option maxHeartbeats 4000000 in
theorem Until_any (r : Rw) (b k mo : Int) (bA dA vA : Option Addr) (bc dc vc : Nat) (W : World) (hrow : RwRow W W.heap.size r bA bc dA dc vA vc) :
    Calls Tryz.prog 24 #[rwV bA r.n bc dA r.d dc vA r.m vc, .int .i64 b, .int .i64 k, .int .i64 mo] W fun e W' => e = .returned (.tuple #[spV (r.untilS b k mo), .int .i64 (r.untilErr b k mo)]) ∧ Below W.heap.size W W' := by
  have H0 := Lib.hid hrow
  clear hrow
  go_enter Tryz.func24, Tryz.ntmps24
  go_wp2_with fail
  refine (opened_any r bA dA vA bc dc vc _ ((H0.out.later (by repeat (first | (with_reducible first | exact Below.refl _ _ | assumption | refine Below.drew ?_) | ((with_reducible first | refine Lc ?_ ?_ _ | refine Ls ?_ ?_ _ | refine Lv (by assumption) ?_ ?_); · first | exact Nat.le_refl _ | omega | (dsimp only; omega) | (simp only [World.size_alloc, World.size_drew, World.heap_drewN]; omega) | (simp; omega))))).up (by first | exact Nat.le_refl _ | omega | (simp; done) | (simp; omega) | (simp at *; omega)) (by first | exact Nat.le_refl _ | omega | (simp; done) | (simp; omega) | (simp at *; omega)))).mono ?_
  rintro e w1 (⟨h0, db, A, c, rfl, hdb, hd, ho, hb1⟩ | ⟨h0, rfl, hb1⟩)
  · have hs1 := hb1.size
    simp only [World.size_alloc, World.size_drew] at hs1
    have a0 : w1.cell? ⟨W.heap.size, 0, none⟩ = some (.slice bA r.n bc) := Kb hb1 (by (repeat' refine And.intro ?_ ?_) <;> (repeat (first | with_reducible assumption | (simp; done) | (with_reducible first | refine Kd ?_ | refine Kn ?_ | refine Kb (by assumption) ?_) | ((with_reducible first | refine Kw ?_ ?_ | refine Fw ?_) <;> first | with_reducible rfl | (simp; done)) | (with_reducible first | refine Ka _ ?_ | refine Ks _ (by first | exact Nat.le_refl _ | omega | (simp; done) | (simp; omega)) ?_ | refine Fd ?_ | refine Fn ?_ | refine Fb (by assumption) (by first | exact Nat.le_refl _ | omega | (simp; done) | (simp; omega)) ?_ | refine Fa _ (by first | exact Nat.le_refl _ | omega | (simp; done) | (simp; omega)) ?_ | refine Fs _ ?_))))
    have b0 : w1.cell? ⟨W.heap.size + 1, 0, none⟩ = some (.int .i64 b) := Kb hb1 (by (repeat' refine And.intro ?_ ?_) <;> (repeat (first | with_reducible assumption | (simp; done) | (with_reducible first | refine Kd ?_ | refine Kn ?_ | refine Kb (by assumption) ?_) | ((with_reducible first | refine Kw ?_ ?_ | refine Fw ?_) <;> first | with_reducible rfl | (simp; done)) | (with_reducible first | refine Ka _ ?_ | refine Ks _ (by first | exact Nat.le_refl _ | omega | (simp; done) | (simp; omega)) ?_ | refine Fd ?_ | refine Fn ?_ | refine Fb (by assumption) (by first | exact Nat.le_refl _ | omega | (simp; done) | (simp; omega)) ?_ | refine Fa _ (by first | exact Nat.le_refl _ | omega | (simp; done) | (simp; omega)) ?_ | refine Fs _ ?_))))
    have k0 : w1.cell? ⟨W.heap.size + 1 + 1, 0, none⟩ = some (.int .i64 k) := Kb hb1 (by (repeat' refine And.intro ?_ ?_) <;> (repeat (first | with_reducible assumption | (simp; done) | (with_reducible first | refine Kd ?_ | refine Kn ?_ | refine Kb (by assumption) ?_) | ((with_reducible first | refine Kw ?_ ?_ | refine Fw ?_) <;> first | with_reducible rfl | (simp; done)) | (with_reducible first | refine Ka _ ?_ | refine Ks _ (by first | exact Nat.le_refl _ | omega | (simp; done) | (simp; omega)) ?_ | refine Fd ?_ | refine Fn ?_ | refine Fb (by assumption) (by first | exact Nat.le_refl _ | omega | (simp; done) | (simp; omega)) ?_ | refine Fa _ (by first | exact Nat.le_refl _ | omega | (simp; done) | (simp; omega)) ?_ | refine Fs _ ?_))))
    have m0 : w1.cell? ⟨W.heap.size + 1 + 1 + 1, 0, none⟩ = some (.int .i64 mo) := Kb hb1 (by (repeat' refine And.intro ?_ ?_) <;> (repeat (first | with_reducible assumption | (simp; done) | (with_reducible first | refine Kd ?_ | refine Kn ?_ | refine Kb (by assumption) ?_) | ((with_reducible first | refine Kw ?_ ?_ | refine Fw ?_) <;> first | with_reducible rfl | (simp; done)) | (with_reducible first | refine Ka _ ?_ | refine Ks _ (by first | exact Nat.le_refl _ | omega | (simp; done) | (simp; omega)) ?_ | refine Fd ?_ | refine Fn ?_ | refine Fb (by assumption) (by first | exact Nat.le_refl _ | omega | (simp; done) | (simp; omega)) ?_ | refine Fa _ (by first | exact Nat.le_refl _ | omega | (simp; done) | (simp; omega)) ?_ | refine Fs _ ?_))))
    have r0 : w1.cell? ⟨W.heap.size + 1 + 1 + 1 + 1, 0, none⟩ = some (.int .i64 0) := Kb hb1 (by (repeat' refine And.intro ?_ ?_) <;> (repeat (first | with_reducible assumption | (simp; done) | (with_reducible first | refine Kd ?_ | refine Kn ?_ | refine Kb (by assumption) ?_) | ((with_reducible first | refine Kw ?_ ?_ | refine Fw ?_) <;> first | with_reducible rfl | (simp; done)) | (with_reducible first | refine Ka _ ?_ | refine Ks _ (by first | exact Nat.le_refl _ | omega | (simp; done) | (simp; omega)) ?_ | refine Fd ?_ | refine Fn ?_ | refine Fb (by assumption) (by first | exact Nat.le_refl _ | omega | (simp; done) | (simp; omega)) ?_ | refine Fa _ (by first | exact Nat.le_refl _ | omega | (simp; done) | (simp; omega)) ?_ | refine Fs _ ?_))))
    have r1 : w1.cell? ⟨W.heap.size + 1 + 1 + 1 + 1, 1, none⟩ = some (.int .i64 0) := Kb hb1 (by (repeat' refine And.intro ?_ ?_) <;> (repeat (first | with_reducible assumption | (simp; done) | (with_reducible first | refine Kd ?_ | refine Kn ?_ | refine Kb (by assumption) ?_) | ((with_reducible first | refine Kw ?_ ?_ | refine Fw ?_) <;> first | with_reducible rfl | (simp; done)) | (with_reducible first | refine Ka _ ?_ | refine Ks _ (by first | exact Nat.le_refl _ | omega | (simp; done) | (simp; omega)) ?_ | refine Fd ?_ | refine Fn ?_ | refine Fb (by assumption) (by first | exact Nat.le_refl _ | omega | (simp; done) | (simp; omega)) ?_ | refine Fa _ (by first | exact Nat.le_refl _ | omega | (simp; done) | (simp; omega)) ?_ | refine Fs _ ?_))))
    have f0 : w1.frozen? ⟨W.heap.size + 1 + 1 + 1 + 1, 0, none⟩ = false := fro_below_cell hb1 (v := .int .i64 0) (by (repeat' refine And.intro ?_ ?_) <;> (repeat (first | with_reducible assumption | (simp; done) | (with_reducible first | refine Kd ?_ | refine Kn ?_ | refine Kb (by assumption) ?_) | ((with_reducible first | refine Kw ?_ ?_ | refine Fw ?_) <;> first | with_reducible rfl | (simp; done)) | (with_reducible first | refine Ka _ ?_ | refine Ks _ (by first | exact Nat.le_refl _ | omega | (simp; done) | (simp; omega)) ?_ | refine Fd ?_ | refine Fn ?_ | refine Fb (by assumption) (by first | exact Nat.le_refl _ | omega | (simp; done) | (simp; omega)) ?_ | refine Fa _ (by first | exact Nat.le_refl _ | omega | (simp; done) | (simp; omega)) ?_ | refine Fs _ ?_)))) (by (repeat' refine And.intro ?_ ?_) <;> (repeat (first | with_reducible assumption | (simp; done) | (with_reducible first | refine Kd ?_ | refine Kn ?_ | refine Kb (by assumption) ?_) | ((with_reducible first | refine Kw ?_ ?_ | refine Fw ?_) <;> first | with_reducible rfl | (simp; done)) | (with_reducible first | refine Ka _ ?_ | refine Ks _ (by first | exact Nat.le_refl _ | omega | (simp; done) | (simp; omega)) ?_ | refine Fd ?_ | refine Fn ?_ | refine Fb (by assumption) (by first | exact Nat.le_refl _ | omega | (simp; done) | (simp; omega)) ?_ | refine Fa _ (by first | exact Nat.le_refl _ | omega | (simp; done) | (simp; omega)) ?_ | refine Fs _ ?_))))
    have f1 : w1.frozen? ⟨W.heap.size + 1 + 1 + 1 + 1, 1, none⟩ = false := fro_below_cell hb1 (v := .int .i64 0) (by (repeat' refine And.intro ?_ ?_) <;> (repeat (first | with_reducible assumption | (simp; done) | (with_reducible first | refine Kd ?_ | refine Kn ?_ | refine Kb (by assumption) ?_) | ((with_reducible first | refine Kw ?_ ?_ | refine Fw ?_) <;> first | with_reducible rfl | (simp; done)) | (with_reducible first | refine Ka _ ?_ | refine Ks _ (by first | exact Nat.le_refl _ | omega | (simp; done) | (simp; omega)) ?_ | refine Fd ?_ | refine Fn ?_ | refine Fb (by assumption) (by first | exact Nat.le_refl _ | omega | (simp; done) | (simp; omega)) ?_ | refine Fa _ (by first | exact Nat.le_refl _ | omega | (simp; done) | (simp; omega)) ?_ | refine Fs _ ?_)))) (by (repeat' refine And.intro ?_ ?_) <;> (repeat (first | with_reducible assumption | (simp; done) | (with_reducible first | refine Kd ?_ | refine Kn ?_ | refine Kb (by assumption) ?_) | ((with_reducible first | refine Kw ?_ ?_ | refine Fw ?_) <;> first | with_reducible rfl | (simp; done)) | (with_reducible first | refine Ka _ ?_ | refine Ks _ (by first | exact Nat.le_refl _ | omega | (simp; done) | (simp; omega)) ?_ | refine Fd ?_ | refine Fn ?_ | refine Fb (by assumption) (by first | exact Nat.le_refl _ | omega | (simp; done) | (simp; omega)) ?_ | refine Fa _ (by first | exact Nat.le_refl _ | omega | (simp; done) | (simp; omega)) ?_ | refine Fs _ ?_))))
    have HB1 := Lib.hid (show Below W.heap.size W w1 from (by repeat (first | (with_reducible first | exact Below.refl _ _ | refine Below.drew ?_ | refine below_drewN ?_ _) | ((with_reducible first | refine Lc ?_ ?_ _ | refine Ls ?_ ?_ _ | refine Lv (by assumption) ?_ ?_); · first | exact Nat.le_refl _ | omega | (simp; done) | (simp; omega) | (simp at *; omega)))))
    have HD := Lib.hid (hd.re (H0.out.later HB1.out))
    have HE := Lib.hid h0
    have hok := Rw.check_ok.1 h0
    have HOK := Lib.hid hok
    have hn6 := hok.n6
    have A0 := Lib.hid a0
    have B0 := Lib.hid b0
    have K0 := Lib.hid k0
    have M0 := Lib.hid m0
    have R0 := Lib.hid r0
    have R1 := Lib.hid r1
    have F0 := Lib.hid f0
    have F1 := Lib.hid f1
    clear h0 hd ho hb1 a0 b0 k0 m0 r0 r1 f0 f1 hok
    go_upto_region 2 with fail
    refine wp_world (fun W2 => W2.cell? ⟨w1.heap.size, 0, none⟩ = some (.pointer (some ⟨db, 0, none⟩)) ∧ Below w1.heap.size w1 W2 ∧ w1.heap.size + 1 ≤ W2.heap.size) ⟨(by (repeat' refine And.intro ?_ ?_) <;> (repeat (first | with_reducible assumption | (simp; done) | (with_reducible first | refine Kd ?_ | refine Kn ?_ | refine Kb (by assumption) ?_) | ((with_reducible first | refine Kw ?_ ?_ | refine Fw ?_) <;> first | with_reducible rfl | (simp; done)) | (with_reducible first | refine Ka _ ?_ | refine Ks _ (by first | exact Nat.le_refl _ | omega | (simp; done) | (simp; omega)) ?_ | refine Fd ?_ | refine Fn ?_ | refine Fb (by assumption) (by first | exact Nat.le_refl _ | omega | (simp; done) | (simp; omega)) ?_ | refine Fa _ (by first | exact Nat.le_refl _ | omega | (simp; done) | (simp; omega)) ?_ | refine Fs _ ?_)))), (by repeat (first | (with_reducible first | exact Below.refl _ _ | assumption | refine Below.drew ?_) | ((with_reducible first | refine Lc ?_ ?_ _ | refine Ls ?_ ?_ _ | refine Lv (by assumption) ?_ ?_); · first | exact Nat.le_refl _ | omega | (dsimp only; omega) | (simp only [World.size_alloc, World.size_drew, World.heap_drewN]; omega) | (simp; omega)))), by simp⟩ ?_
    rintro w2 ⟨hx, hb2, hs2⟩
    have HU : Hid (UnX W w2 db w1.heap.size r b k mo bA bc dA dc vA vc (.slice A r.round.length c)) := Lib.hid ⟨Kb hb2 A0.out, Kb hb2 B0.out, Kb hb2 K0.out, Kb hb2 M0.out, Kb hb2 R0.out, Kb hb2 R1.out, fro_below_cell hb2 R0.out F0.out, fro_below_cell hb2 R1.out F1.out, hx, HD.out.later hb2, HB1.out.trans (hb2.mono (by omega))⟩
    clear hx hb2 A0 B0 K0 M0 R0 R1 F0 F1 HD HB1
    have xd := HU.out.xd
    have b0 := HU.out.b0
    go_wp2_with fail
    refine (bins_any r (by omega) b b db bA dA vA bc dc vc _ (HU.out.d.later (by repeat (first | (with_reducible first | exact Below.refl _ _ | assumption | refine Below.drew ?_) | ((with_reducible first | refine Lc ?_ ?_ _ | refine Ls ?_ ?_ _ | refine Lv (by assumption) ?_ ?_); · first | exact Nat.le_refl _ | omega | (dsimp only; omega) | (simp only [World.size_alloc, World.size_drew, World.heap_drewN]; omega) | (simp; omega))))).a.a).mono ?_
    rintro e w3 ⟨rfl, hb3⟩
    have HU3 := Lib.hid (HU.out.later (show Below w2.heap.size w2 w3 from (by repeat (first | (with_reducible first | exact Below.refl _ _ | assumption | refine Below.drew ?_) | ((with_reducible first | refine Lc ?_ ?_ _ | refine Ls ?_ ?_ _ | refine Lv (by assumption) ?_ ?_); · first | exact Nat.le_refl _ | omega | (dsimp only; omega) | (simp only [World.size_alloc, World.size_drew, World.heap_drewN]; omega) | (simp; omega))))))
    have hs3 : w1.heap.size + 1 ≤ w3.heap.size := Nat.le_trans hs2 hb3.size
    clear hb3 HU xd b0
    by_cases hbe : r.binsErr b b = 0
    · rw [hbe]
      have HBE := Lib.hid hbe
      clear hbe
      have k0 := HU3.out.k0
      cases hk : inB k 0 2 with
      | false =>
        have HF : Hid (r.untilErr b k mo = 2) := Lib.hid (by unfold Rw.untilErr; rw [if_neg (by simpa using HE.out), if_pos (.inr hk)])
        have HV : Hid (r.untilS b k mo = ⟨0, 0⟩) := Lib.hid (by unfold Rw.untilS; rw [HF.out]; rfl)
        have HK := Lib.hid hk
        clear hk
        go_wp2_with fail
        refine (in_any _ _ _ _).mono ?_
        rintro e w4 ⟨rfl, rfl⟩
        rw [HK.out]
        have r0 := HU3.out.r0
        have r1 := HU3.out.r1
        have f0 := HU3.out.f0
        have f1 := HU3.out.f1
        go_wp2_with fail
        exact bodyPost_ret (v := .tuple #[.agg #[.int .i64 0, .int .i64 0], .int .i64 2]) (by simp [results, Tryz.results24, go_sem, r0, r1]) rfl ⟨by rw [HV.out, HF.out], by have h := HU3.out.bel; repeat (first | (with_reducible first | exact Below.refl _ _ | assumption | refine Below.drew ?_) | ((with_reducible first | refine Lc ?_ ?_ _ | refine Ls ?_ ?_ _ | refine Lv (by assumption) ?_ ?_); · first | exact Nat.le_refl _ | omega | (dsimp only; omega) | (simp only [World.size_alloc, World.size_drew, World.heap_drewN]; omega) | (simp; omega)))⟩
      | true =>
        have HK := Lib.hid hk
        clear hk
        have m0 := HU3.out.m0
        cases hm : inB mo 0 3000 with
        | false =>
          have HF : Hid (r.untilErr b k mo = 4) := Lib.hid (by unfold Rw.untilErr; rw [if_neg (by simpa using HE.out), if_neg (by rw [HBE.out, HK.out]; simp), if_pos hm])
          have HV : Hid (r.untilS b k mo = ⟨0, 0⟩) := Lib.hid (by unfold Rw.untilS; rw [HF.out]; rfl)
          have HM := Lib.hid hm
          clear hm
          go_wp2_with fail
          refine (in_any _ _ _ _).mono ?_
          rintro e w4 ⟨rfl, rfl⟩
          rw [HK.out]
          go_wp2_with fail
          refine (in_any _ _ _ _).mono ?_
          rintro e w4 ⟨rfl, rfl⟩
          rw [HM.out]
          have r0 := HU3.out.r0
          have r1 := HU3.out.r1
          have f0 := HU3.out.f0
          have f1 := HU3.out.f1
          go_wp2_with fail
          exact bodyPost_ret (v := .tuple #[.agg #[.int .i64 0, .int .i64 0], .int .i64 4]) (by simp [results, Tryz.results24, go_sem, r0, r1]) rfl ⟨by rw [HV.out, HF.out], by have h := HU3.out.bel; repeat (first | (with_reducible first | exact Below.refl _ _ | assumption | refine Below.drew ?_) | ((with_reducible first | refine Lc ?_ ?_ _ | refine Ls ?_ ?_ _ | refine Lv (by assumption) ?_ ?_); · first | exact Nat.le_refl _ | omega | (dsimp only; omega) | (simp only [World.size_alloc, World.size_drew, World.heap_drewN]; omega) | (simp; omega)))⟩
        | true =>
          have HM := Lib.hid hm
          clear hm
          have xd := HU3.out.xd
          have hrd := HU3.out.d.rd
          by_cases hz : r.round.length = 0
          · have HF : Hid (r.untilErr b k mo = 0) := Lib.hid (by unfold Rw.untilErr; rw [if_neg (by simpa using HE.out), if_neg (by rw [HBE.out, HK.out]; simp), if_neg (by rw [HM.out]; simp), if_pos hz])
            have hno : ¬ (0 : Int) < (r.round.length : Int) := by omega
            have HFI := Lib.hid (Rw.fin_of HOK.out hz)
            have hbo := Rw.bins_ok HBE.out
            have hko := inB_iff.1 HK.out
            have hmo := inB_iff.1 HM.out
            obtain ⟨b', hb'⟩ := Int.eq_ofNat_of_zero_le (a := b) (by omega)
            obtain ⟨k', hk'⟩ := Int.eq_ofNat_of_zero_le hko.1
            have HV : Hid (r.untilS b k mo = ⟨untilR (r.search.1.L b' (b' + 1)) ((r.B b').hi k') mo, untilR (-r.search.1.L (b' + 1) b') ((r.B b').lo k') mo⟩) := Lib.hid (by unfold Rw.untilS; rw [if_pos HF.out, hb', hk']; rfl)
            have HBK := Lib.hid (And.intro hb' hk')
            have hbn : b' < r.n := by omega
            have hk3 : k' < 3 := by omega
            clear hb' hk' hbo hko
            go_wp2_with fail
            refine (in_any _ _ _ _).mono ?_
            rintro e w4 ⟨rfl, rfl⟩
            rw [HK.out]
            go_wp2_with fail
            refine (in_any _ _ _ _).mono ?_
            rintro e w4 ⟨rfl, rfl⟩
            rw [HM.out]
            go_wp2_with fail
            refine (ends_any _).mono ?_
            rintro e w4 ⟨rfl, hb4⟩
            have HU4 := Lib.hid (HU3.out.later (show Below w3.heap.size w3 w4 from (by repeat (first | (with_reducible first | exact Below.refl _ _ | assumption | refine Below.drew ?_) | ((with_reducible first | refine Lc ?_ ?_ _ | refine Ls ?_ ?_ _ | refine Lv (by assumption) ?_ ?_); · first | exact Nat.le_refl _ | omega | (dsimp only; omega) | (simp only [World.size_alloc, World.size_drew, World.heap_drewN]; omega) | (simp; omega))))))
            have hs4 : w1.heap.size + 1 ≤ w4.heap.size := Nat.le_trans hs3 (show Below w3.heap.size w3 w4 from (by repeat (first | (with_reducible first | exact Below.refl _ _ | assumption | refine Below.drew ?_) | ((with_reducible first | refine Lc ?_ ?_ _ | refine Ls ?_ ?_ _ | refine Lv (by assumption) ?_ ?_); · first | exact Nat.le_refl _ | omega | (dsimp only; omega) | (simp only [World.size_alloc, World.size_drew, World.heap_drewN]; omega) | (simp; omega))))).size
            clear hb4 HU3 xd hrd k0 m0
            have r0 := HU4.out.r0
            have r1 := HU4.out.r1
            have f0 := HU4.out.f0
            have f1 := HU4.out.f1
            go_upto_region 12 with fail
            have HUN : Hid (∀ w, Below w4.heap.size w4 w → UnAt w W.heap.size w1.heap.size (W.heap.size + 1) W.heap.size (W.heap.size + 1 + 1) (W.heap.size + 1 + 1 + 1) db r r.search.1 b' k' mo bA bc dc dA vA vc) := Lib.hid (fun w hb => by
              have h := HU4.out.later hb
              have h1 := h.b0
              have h2 := h.k0
              rw [HBK.out.1] at h1
              rw [HBK.out.2] at h2
              exact ⟨h.xd, h1, h.a0, h2, h.m0, h.d.l, h.d.lt, h.d.a.r⟩)
            go_region_held3 (fun w' => w'.cell? ⟨w4.heap.size, 0, none⟩ = some (.func (.func 133) #[] #[]) ∧ w'.cell? ⟨w4.heap.size + 1, 0, none⟩ = some (.func (.func 134) #[] #[])) ((go_split_ands; (repeat' refine And.intro ?_ ?_) <;> (repeat (first | with_reducible assumption | (simp; done) | (with_reducible first | refine Kd ?_ | refine Kn ?_ | refine Kb (by assumption) ?_) | ((with_reducible first | refine Kw ?_ ?_ | refine Fw ?_) <;> first | with_reducible rfl | (simp; done)) | (with_reducible first | refine Ka _ ?_ | refine Ks _ (by first | exact Nat.le_refl _ | omega | (simp; done) | (simp; omega) | (simp at *; omega)) ?_ | refine Fd ?_ | refine Fn ?_ | refine Fb (by assumption) (by first | exact Nat.le_refl _ | omega | (simp; done) | (simp; omega) | (simp at *; omega)) ?_ | refine Fa _ (by first | exact Nat.le_refl _ | omega | (simp; done) | (simp; omega) | (simp at *; omega)) ?_ | refine Fs _ ?_))))) (first | (go_at_call 91; refine (until1_any _ _ (by first | exact end_lo | exact end_hi) W.heap.size w1.heap.size (W.heap.size + 1) W.heap.size (W.heap.size + 1 + 1) (W.heap.size + 1 + 1 + 1) db r HOK.out r.search.1 HFI.out.bd b' k' hbn hk3 mo hmo bA dA vA bc dc vc _ (HUN.out _ (by repeat (first | (with_reducible first | exact Below.refl _ _ | refine Below.drew ?_ | refine below_drewN ?_ _) | ((with_reducible first | refine Lc ?_ ?_ _ | refine Ls ?_ ?_ _ | refine Lv (by assumption) ?_ ?_); · first | exact Nat.le_refl _ | omega | (simp; done) | (simp; omega) | (simp at *; omega)))))).mono ?_; rintro e w2 ⟨rfl, hb2⟩; obtain ⟨hc2, hf2⟩ := bcell hb2; have hz2 := hb2.size; have r0 : w2.cell? ⟨W.heap.size + 1 + 1 + 1 + 1, 0, none⟩ = some (.int .i64 0) := (by repeat (first | with_reducible assumption | (simp; done) | (with_reducible first | refine Kd ?_ | refine Kn ?_ | refine Kb (by assumption) ?_) | ((with_reducible first | refine Kw ?_ ?_ | refine Fw ?_) <;> first | with_reducible rfl | (simp; done)) | (with_reducible first | refine Ka _ ?_ | refine Ks _ (by first | exact Nat.le_refl _ | omega | (simp; done) | (simp; omega) | (simp at *; omega)) ?_ | refine Fd ?_ | refine Fn ?_ | refine Fb (by assumption) (by first | exact Nat.le_refl _ | omega | (simp; done) | (simp; omega) | (simp at *; omega)) ?_ | refine Fa _ (by first | exact Nat.le_refl _ | omega | (simp; done) | (simp; omega) | (simp at *; omega)) ?_ | refine Fs _ ?_))); have r1 : w2.cell? ⟨W.heap.size + 1 + 1 + 1 + 1, 1, none⟩ = some (.int .i64 0) := (by repeat (first | with_reducible assumption | (simp; done) | (with_reducible first | refine Kd ?_ | refine Kn ?_ | refine Kb (by assumption) ?_) | ((with_reducible first | refine Kw ?_ ?_ | refine Fw ?_) <;> first | with_reducible rfl | (simp; done)) | (with_reducible first | refine Ka _ ?_ | refine Ks _ (by first | exact Nat.le_refl _ | omega | (simp; done) | (simp; omega) | (simp at *; omega)) ?_ | refine Fd ?_ | refine Fn ?_ | refine Fb (by assumption) (by first | exact Nat.le_refl _ | omega | (simp; done) | (simp; omega) | (simp at *; omega)) ?_ | refine Fa _ (by first | exact Nat.le_refl _ | omega | (simp; done) | (simp; omega) | (simp at *; omega)) ?_ | refine Fs _ ?_))); have f0 : w2.frozen? ⟨W.heap.size + 1 + 1 + 1 + 1, 0, none⟩ = false := (by repeat (first | with_reducible assumption | (simp; done) | (with_reducible first | refine Kd ?_ | refine Kn ?_ | refine Kb (by assumption) ?_) | ((with_reducible first | refine Kw ?_ ?_ | refine Fw ?_) <;> first | with_reducible rfl | (simp; done)) | (with_reducible first | refine Ka _ ?_ | refine Ks _ (by first | exact Nat.le_refl _ | omega | (simp; done) | (simp; omega) | (simp at *; omega)) ?_ | refine Fd ?_ | refine Fn ?_ | refine Fb (by assumption) (by first | exact Nat.le_refl _ | omega | (simp; done) | (simp; omega) | (simp at *; omega)) ?_ | refine Fa _ (by first | exact Nat.le_refl _ | omega | (simp; done) | (simp; omega) | (simp at *; omega)) ?_ | refine Fs _ ?_))); have f1 : w2.frozen? ⟨W.heap.size + 1 + 1 + 1 + 1, 1, none⟩ = false := (by repeat (first | with_reducible assumption | (simp; done) | (with_reducible first | refine Kd ?_ | refine Kn ?_ | refine Kb (by assumption) ?_) | ((with_reducible first | refine Kw ?_ ?_ | refine Fw ?_) <;> first | with_reducible rfl | (simp; done)) | (with_reducible first | refine Ka _ ?_ | refine Ks _ (by first | exact Nat.le_refl _ | omega | (simp; done) | (simp; omega) | (simp at *; omega)) ?_ | refine Fd ?_ | refine Fn ?_ | refine Fb (by assumption) (by first | exact Nat.le_refl _ | omega | (simp; done) | (simp; omega) | (simp at *; omega)) ?_ | refine Fa _ (by first | exact Nat.le_refl _ | omega | (simp; done) | (simp; omega) | (simp at *; omega)) ?_ | refine Fs _ ?_)))))
            clear hc2 hf2
            go_wp2_with fail
            exact bodyPost_ret (v := .tuple #[.agg #[.int .i64 (untilR (r.search.1.L b' (b' + 1)) ((r.B b').hi k') mo), .int .i64 (untilR (-r.search.1.L (b' + 1) b') ((r.B b').lo k') mo)], .int .i64 0]) (by simp [results, Tryz.results24, go_sem, r0, r1]) rfl ⟨by rw [HV.out, HF.out], (by have hy := HU4.out.bel; have hzy := hy.size; repeat (first | (with_reducible first | exact Below.refl _ _ | refine Below.drew ?_ | refine below_drewN ?_ _) | ((with_reducible first | refine Lc ?_ ?_ _ | refine Ls ?_ ?_ _ | refine Lv (by assumption) ?_ ?_); · first | exact Nat.le_refl _ | omega | (simp; done) | (simp; omega) | (simp at *; omega))))⟩
          · have HF : Hid (r.untilErr b k mo = 7) := Lib.hid (by unfold Rw.untilErr; rw [if_neg (by simpa using HE.out), if_neg (by rw [HBE.out, HK.out]; simp), if_neg (by rw [HM.out]; simp), if_neg hz])
            have HV : Hid (r.untilS b k mo = ⟨0, 0⟩) := Lib.hid (by unfold Rw.untilS; rw [HF.out]; rfl)
            have hyes : (0 : Int) < (r.round.length : Int) := by omega
            go_wp2_with fail
            refine (in_any _ _ _ _).mono ?_
            rintro e w4 ⟨rfl, rfl⟩
            rw [HK.out]
            go_wp2_with fail
            refine (in_any _ _ _ _).mono ?_
            rintro e w4 ⟨rfl, rfl⟩
            rw [HM.out]
            have r0 := HU3.out.r0
            have r1 := HU3.out.r1
            have f0 := HU3.out.f0
            have f1 := HU3.out.f1
            go_wp2_with fail
            exact bodyPost_ret (v := .tuple #[.agg #[.int .i64 0, .int .i64 0], .int .i64 7]) (by simp [results, Tryz.results24, go_sem, r0, r1]) rfl ⟨by rw [HV.out, HF.out], by have h := HU3.out.bel; repeat (first | (with_reducible first | exact Below.refl _ _ | assumption | refine Below.drew ?_) | ((with_reducible first | refine Lc ?_ ?_ _ | refine Ls ?_ ?_ _ | refine Lv (by assumption) ?_ ?_); · first | exact Nat.le_refl _ | omega | (dsimp only; omega) | (simp only [World.size_alloc, World.size_drew, World.heap_drewN]; omega) | (simp; omega)))⟩
    · have HF : Hid (r.untilErr b k mo = 2) := Lib.hid (by unfold Rw.untilErr; rw [if_neg (by simpa using HE.out), if_pos (.inl hbe)])
      have HV : Hid (r.untilS b k mo = ⟨0, 0⟩) := Lib.hid (by unfold Rw.untilS; rw [HF.out]; rfl)
      have hne : (r.binsErr b b != 0) = true := by simpa using hbe
      clear hbe
      have r0 := HU3.out.r0
      have r1 := HU3.out.r1
      have f0 := HU3.out.f0
      have f1 := HU3.out.f1
      go_wp2_with fail
      exact bodyPost_ret (v := .tuple #[.agg #[.int .i64 0, .int .i64 0], .int .i64 2]) (by simp [results, Tryz.results24, go_sem, r0, r1]) rfl ⟨by rw [HV.out, HF.out], by have h := HU3.out.bel; repeat (first | (with_reducible first | exact Below.refl _ _ | assumption | refine Below.drew ?_) | ((with_reducible first | refine Lc ?_ ?_ _ | refine Ls ?_ ?_ _ | refine Lv (by assumption) ?_ ?_); · first | exact Nat.le_refl _ | omega | (dsimp only; omega) | (simp only [World.size_alloc, World.size_drew, World.heap_drewN]; omega) | (simp; omega)))⟩
  · have hs1 := hb1.size
    simp only [World.size_alloc, World.size_drew] at hs1
    have a0 : w1.cell? ⟨W.heap.size, 0, none⟩ = some (.slice bA r.n bc) := Kb hb1 (by (repeat' refine And.intro ?_ ?_) <;> (repeat (first | with_reducible assumption | (simp; done) | (with_reducible first | refine Kd ?_ | refine Kn ?_ | refine Kb (by assumption) ?_) | ((with_reducible first | refine Kw ?_ ?_ | refine Fw ?_) <;> first | with_reducible rfl | (simp; done)) | (with_reducible first | refine Ka _ ?_ | refine Ks _ (by first | exact Nat.le_refl _ | omega | (simp; done) | (simp; omega)) ?_ | refine Fd ?_ | refine Fn ?_ | refine Fb (by assumption) (by first | exact Nat.le_refl _ | omega | (simp; done) | (simp; omega)) ?_ | refine Fa _ (by first | exact Nat.le_refl _ | omega | (simp; done) | (simp; omega)) ?_ | refine Fs _ ?_))))
    have r0 : w1.cell? ⟨W.heap.size + 1 + 1 + 1 + 1, 0, none⟩ = some (.int .i64 0) := Kb hb1 (by (repeat' refine And.intro ?_ ?_) <;> (repeat (first | with_reducible assumption | (simp; done) | (with_reducible first | refine Kd ?_ | refine Kn ?_ | refine Kb (by assumption) ?_) | ((with_reducible first | refine Kw ?_ ?_ | refine Fw ?_) <;> first | with_reducible rfl | (simp; done)) | (with_reducible first | refine Ka _ ?_ | refine Ks _ (by first | exact Nat.le_refl _ | omega | (simp; done) | (simp; omega)) ?_ | refine Fd ?_ | refine Fn ?_ | refine Fb (by assumption) (by first | exact Nat.le_refl _ | omega | (simp; done) | (simp; omega)) ?_ | refine Fa _ (by first | exact Nat.le_refl _ | omega | (simp; done) | (simp; omega)) ?_ | refine Fs _ ?_))))
    have r1 : w1.cell? ⟨W.heap.size + 1 + 1 + 1 + 1, 1, none⟩ = some (.int .i64 0) := Kb hb1 (by (repeat' refine And.intro ?_ ?_) <;> (repeat (first | with_reducible assumption | (simp; done) | (with_reducible first | refine Kd ?_ | refine Kn ?_ | refine Kb (by assumption) ?_) | ((with_reducible first | refine Kw ?_ ?_ | refine Fw ?_) <;> first | with_reducible rfl | (simp; done)) | (with_reducible first | refine Ka _ ?_ | refine Ks _ (by first | exact Nat.le_refl _ | omega | (simp; done) | (simp; omega)) ?_ | refine Fd ?_ | refine Fn ?_ | refine Fb (by assumption) (by first | exact Nat.le_refl _ | omega | (simp; done) | (simp; omega)) ?_ | refine Fa _ (by first | exact Nat.le_refl _ | omega | (simp; done) | (simp; omega)) ?_ | refine Fs _ ?_))))
    have f0 : w1.frozen? ⟨W.heap.size + 1 + 1 + 1 + 1, 0, none⟩ = false := fro_below_cell hb1 (v := .int .i64 0) (by (repeat' refine And.intro ?_ ?_) <;> (repeat (first | with_reducible assumption | (simp; done) | (with_reducible first | refine Kd ?_ | refine Kn ?_ | refine Kb (by assumption) ?_) | ((with_reducible first | refine Kw ?_ ?_ | refine Fw ?_) <;> first | with_reducible rfl | (simp; done)) | (with_reducible first | refine Ka _ ?_ | refine Ks _ (by first | exact Nat.le_refl _ | omega | (simp; done) | (simp; omega)) ?_ | refine Fd ?_ | refine Fn ?_ | refine Fb (by assumption) (by first | exact Nat.le_refl _ | omega | (simp; done) | (simp; omega)) ?_ | refine Fa _ (by first | exact Nat.le_refl _ | omega | (simp; done) | (simp; omega)) ?_ | refine Fs _ ?_)))) (by (repeat' refine And.intro ?_ ?_) <;> (repeat (first | with_reducible assumption | (simp; done) | (with_reducible first | refine Kd ?_ | refine Kn ?_ | refine Kb (by assumption) ?_) | ((with_reducible first | refine Kw ?_ ?_ | refine Fw ?_) <;> first | with_reducible rfl | (simp; done)) | (with_reducible first | refine Ka _ ?_ | refine Ks _ (by first | exact Nat.le_refl _ | omega | (simp; done) | (simp; omega)) ?_ | refine Fd ?_ | refine Fn ?_ | refine Fb (by assumption) (by first | exact Nat.le_refl _ | omega | (simp; done) | (simp; omega)) ?_ | refine Fa _ (by first | exact Nat.le_refl _ | omega | (simp; done) | (simp; omega)) ?_ | refine Fs _ ?_))))
    have f1 : w1.frozen? ⟨W.heap.size + 1 + 1 + 1 + 1, 1, none⟩ = false := fro_below_cell hb1 (v := .int .i64 0) (by (repeat' refine And.intro ?_ ?_) <;> (repeat (first | with_reducible assumption | (simp; done) | (with_reducible first | refine Kd ?_ | refine Kn ?_ | refine Kb (by assumption) ?_) | ((with_reducible first | refine Kw ?_ ?_ | refine Fw ?_) <;> first | with_reducible rfl | (simp; done)) | (with_reducible first | refine Ka _ ?_ | refine Ks _ (by first | exact Nat.le_refl _ | omega | (simp; done) | (simp; omega)) ?_ | refine Fd ?_ | refine Fn ?_ | refine Fb (by assumption) (by first | exact Nat.le_refl _ | omega | (simp; done) | (simp; omega)) ?_ | refine Fa _ (by first | exact Nat.le_refl _ | omega | (simp; done) | (simp; omega)) ?_ | refine Fs _ ?_)))) (by (repeat' refine And.intro ?_ ?_) <;> (repeat (first | with_reducible assumption | (simp; done) | (with_reducible first | refine Kd ?_ | refine Kn ?_ | refine Kb (by assumption) ?_) | ((with_reducible first | refine Kw ?_ ?_ | refine Fw ?_) <;> first | with_reducible rfl | (simp; done)) | (with_reducible first | refine Ka _ ?_ | refine Ks _ (by first | exact Nat.le_refl _ | omega | (simp; done) | (simp; omega)) ?_ | refine Fd ?_ | refine Fn ?_ | refine Fb (by assumption) (by first | exact Nat.le_refl _ | omega | (simp; done) | (simp; omega)) ?_ | refine Fa _ (by first | exact Nat.le_refl _ | omega | (simp; done) | (simp; omega)) ?_ | refine Fs _ ?_))))
    have HB1 := Lib.hid (show Below W.heap.size W w1 from (by repeat (first | (with_reducible first | exact Below.refl _ _ | refine Below.drew ?_ | refine below_drewN ?_ _) | ((with_reducible first | refine Lc ?_ ?_ _ | refine Ls ?_ ?_ _ | refine Lv (by assumption) ?_ ?_); · first | exact Nat.le_refl _ | omega | (simp; done) | (simp; omega) | (simp at *; omega)))))
    have hne : (r.check != 0) = true := by simpa using h0
    have HE : Hid (r.untilErr b k mo = r.check) := Lib.hid (by unfold Rw.untilErr; rw [if_pos h0])
    have HV : Hid (r.untilS b k mo = ⟨0, 0⟩) := Lib.hid (by unfold Rw.untilS; rw [HE.out, if_neg h0])
    clear h0 hb1 a0
    go_wp2_with fail
    exact bodyPost_ret (v := .tuple #[.agg #[.int .i64 0, .int .i64 0], .int .i64 r.check]) (by simp [results, Tryz.results24, go_sem, r0, r1]) rfl ⟨by rw [HV.out, HE.out], by have h := HB1.out; repeat (first | (with_reducible first | exact Below.refl _ _ | assumption | refine Below.drew ?_) | ((with_reducible first | refine Lc ?_ ?_ _ | refine Ls ?_ ?_ _ | refine Lv (by assumption) ?_ ?_); · first | exact Nat.le_refl _ | omega | (dsimp only; omega) | (simp only [World.size_alloc, World.size_drew, World.heap_drewN]; omega) | (simp; omega)))⟩
end Go.Proofs.YtnnikeolgknfoaaGreat
