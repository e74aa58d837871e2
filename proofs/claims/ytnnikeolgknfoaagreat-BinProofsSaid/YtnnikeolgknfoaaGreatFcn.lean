/- BinProofs: the joined statement. -/
import Derived.Test.YtnnikeolgknfoaaGreatFcq
import Derived.Test.YtnnikeolgknfoaaGreatFcy
import Derived.Deep.CutBlock
import Derived.Test.YtnnikeolgknfoaaGreatFcm
import Derived.Test.YtnnikeolgknfoaaGreatBt
import Derived.Deep.Strs
import Derived.Test.YtnnikeolgknfoaaGreatJa
import Derived.Test.YtnnikeolgknfoaaGreatRows
set_option linter.unusedSimpArgs false
set_option linter.unusedVariables false
namespace Go.Proofs.YtnnikeolgknfoaaGreat
open Go.RowKit Go.Shelf

set_option maxRecDepth 100000 in
set_option maxHeartbeats 0 in
theorem proofs_law (r : Rw) (f t : Int) (cA : Option Addr) (n cc : Nat) (P : Nat → Fc) (bA dA vA : Option Addr) (bc dc vc : Nat) (W : World) (hrow : RwRow W W.heap.size r bA bc dA dc vA vc) (hlong : r.longB = false) (hn24 : n ≤ 24) (hch : FcRow W W.heap.size cA n P) :
    Calls Tryz.prog 7 #[rwV bA r.n bc dA r.d dc vA r.m vc, .int .i64 f, .int .i64 t, .slice cA n cc] W fun e W' => e = .returned (.bool true) ∧ Below W.heap.size W W' := by
  have H0 := Lib.hid hrow
  have HCH := Lib.hid hch
  have g5 : ¬ (24 : Int) < (n : Int) := by omega
  clear hrow hch
  go_enter Tryz.func7, Tryz.ntmps7
  go_wp2_with fail
  refine (long_any r bA dA vA bc dc vc _).mono ?_
  rintro e w1 ⟨rfl, hb1⟩
  rw [hlong]
  have HB1 := Lib.hid (show Below W.heap.size W w1 from (by repeat (first | (with_reducible first | exact Below.refl _ _ | refine Below.drew ?_ | refine below_drewN ?_ _) | ((with_reducible first | refine Lc ?_ ?_ _ | refine Ls ?_ ?_ _ | refine Lv (by assumption) ?_ ?_); · first | exact Nat.le_refl _ | omega | (simp; done) | (simp; omega) | (simp at *; omega)))))
  have hs1 : W.heap.size < w1.heap.size := by have := hb1.size; simp only [World.size_alloc, World.size_drew] at this; omega
  have a0 : w1.cell? ⟨W.heap.size, 0, none⟩ = some (.slice bA r.n bc) := Kb hb1 (by (repeat' refine And.intro ?_ ?_) <;> (repeat (first | with_reducible assumption | (simp; done) | (with_reducible first | refine Kd ?_ | refine Kn ?_ | refine Kb (by assumption) ?_) | ((with_reducible first | refine Kw ?_ ?_ | refine Fw ?_) <;> first | with_reducible rfl | (simp; done)) | (with_reducible first | refine Ka _ ?_ | refine Ks _ (by first | exact Nat.le_refl _ | omega | (simp; done) | (simp; omega)) ?_ | refine Fd ?_ | refine Fn ?_ | refine Fb (by assumption) (by first | exact Nat.le_refl _ | omega | (simp; done) | (simp; omega)) ?_ | refine Fa _ (by first | exact Nat.le_refl _ | omega | (simp; done) | (simp; omega)) ?_ | refine Fs _ ?_))))
  have a1 : w1.cell? ⟨W.heap.size, 1, none⟩ = some (.slice dA r.d dc) := Kb hb1 (by (repeat' refine And.intro ?_ ?_) <;> (repeat (first | with_reducible assumption | (simp; done) | (with_reducible first | refine Kd ?_ | refine Kn ?_ | refine Kb (by assumption) ?_) | ((with_reducible first | refine Kw ?_ ?_ | refine Fw ?_) <;> first | with_reducible rfl | (simp; done)) | (with_reducible first | refine Ka _ ?_ | refine Ks _ (by first | exact Nat.le_refl _ | omega | (simp; done) | (simp; omega)) ?_ | refine Fd ?_ | refine Fn ?_ | refine Fb (by assumption) (by first | exact Nat.le_refl _ | omega | (simp; done) | (simp; omega)) ?_ | refine Fa _ (by first | exact Nat.le_refl _ | omega | (simp; done) | (simp; omega)) ?_ | refine Fs _ ?_))))
  have a2 : w1.cell? ⟨W.heap.size, 2, none⟩ = some (.slice vA r.m vc) := Kb hb1 (by (repeat' refine And.intro ?_ ?_) <;> (repeat (first | with_reducible assumption | (simp; done) | (with_reducible first | refine Kd ?_ | refine Kn ?_ | refine Kb (by assumption) ?_) | ((with_reducible first | refine Kw ?_ ?_ | refine Fw ?_) <;> first | with_reducible rfl | (simp; done)) | (with_reducible first | refine Ka _ ?_ | refine Ks _ (by first | exact Nat.le_refl _ | omega | (simp; done) | (simp; omega)) ?_ | refine Fd ?_ | refine Fn ?_ | refine Fb (by assumption) (by first | exact Nat.le_refl _ | omega | (simp; done) | (simp; omega)) ?_ | refine Fa _ (by first | exact Nat.le_refl _ | omega | (simp; done) | (simp; omega)) ?_ | refine Fs _ ?_))))
  have HA := Lib.hid (show RwAt w1 W.heap.size r bA bc dA dc vA vc from ⟨a0, a1, a2⟩)
  clear hb1 hlong
  go_upto_region 3 with fail
  refine proofs_reg3 r cA n cc P bA dA vA bc dc vc W _ H0 HCH HB1 hs1 hn24 HA _ ?_
  intro y40 y41 y42 y43 y44 y45 b1 b2 d1 d2 mA mc w2' hcut
  obtain ⟨bA1, dA1, vA1, bc1, dc1, vc1⟩ := d1
  obtain ⟨bA2, dA2, vA2, bc2, dc2, vc2⟩ := d2
  obtain ⟨HL, HC, HM⟩ := hcut
  clear HA HB1 a0 a1 a2 HCH g5 hs1
  have hn1000 : n ≤ 1000 := by omega
  have hnbig : n ≤ 1000000000 := by omega
  obtain ⟨c0, c1, c2⟩ := HL.out.s2
  go_wp2_with fail
  refine (rSum_any r f t bA2 dA2 vA2 bc2 dc2 vc2 _ HL.out.r2).mono ?_
  rintro e w3 ⟨rfl, hb3⟩
  have HL3 := Lib.hid (HL.out.later hb3)
  have HC3 := Lib.hid ((HC.out.below hb3).mono hb3.size)
  have HM3 := Lib.hid ((HM.out.below hb3).mono hb3.size)
  obtain ⟨s, hs⟩ : ∃ s, s = r.sumS f t := ⟨_, rfl⟩
  have HS := Lib.hid hs
  obtain ⟨er, her⟩ : ∃ er, er = r.askErr f t := ⟨_, rfl⟩
  have HER := Lib.hid her
  rw [← hs, ← her]
  clear hb3 HL HC HM c0 c1 c2 hs her
  go_upto_region 5 with fail
  refine wp_world (fun w' => LawB W w' r b1 b2 ⟨bA, dA, vA, bc, dc, vc⟩ ⟨bA1, dA1, vA1, bc1, dc1, vc1⟩ ⟨bA2, dA2, vA2, bc2, dc2, vc2⟩ ∧ Below w3.heap.size w3 w' ∧ w'.cell? ⟨w3.heap.size, 0, none⟩ = some (.int .i64 s.a) ∧ w'.cell? ⟨w3.heap.size, 1, none⟩ = some (.int .i64 s.b)) ⟨HL3.out.later (by repeat (first | (with_reducible first | exact Below.refl _ _ | assumption | refine Below.drew ?_) | ((with_reducible first | refine Lc ?_ ?_ _ | refine Ls ?_ ?_ _ | refine Lv (by assumption) ?_ ?_); · first | exact Nat.le_refl _ | omega | (dsimp only; omega) | (simp only [World.size_alloc, World.size_drew, World.heap_drewN]; omega) | (simp; omega)))), (by repeat (first | (with_reducible first | exact Below.refl _ _ | assumption | refine Below.drew ?_) | ((with_reducible first | refine Lc ?_ ?_ _ | refine Ls ?_ ?_ _ | refine Lv (by assumption) ?_ ?_); · first | exact Nat.le_refl _ | omega | (dsimp only; omega) | (simp only [World.size_alloc, World.size_drew, World.heap_drewN]; omega) | (simp; omega)))), (by (repeat' refine And.intro ?_ ?_) <;> (repeat (first | with_reducible assumption | (simp; done) | (with_reducible first | refine Kd ?_ | refine Kn ?_ | refine Kb (by assumption) ?_) | ((with_reducible first | refine Kw ?_ ?_ | refine Fw ?_) <;> first | with_reducible rfl | (simp; done)) | (with_reducible first | refine Ka _ ?_ | refine Ks _ (by first | exact Nat.le_refl _ | omega | (simp; done) | (simp; omega)) ?_ | refine Fd ?_ | refine Fn ?_ | refine Fb (by assumption) (by first | exact Nat.le_refl _ | omega | (simp; done) | (simp; omega)) ?_ | refine Fa _ (by first | exact Nat.le_refl _ | omega | (simp; done) | (simp; omega)) ?_ | refine Fs _ ?_)))), (by (repeat' refine And.intro ?_ ?_) <;> (repeat (first | with_reducible assumption | (simp; done) | (with_reducible first | refine Kd ?_ | refine Kn ?_ | refine Kb (by assumption) ?_) | ((with_reducible first | refine Kw ?_ ?_ | refine Fw ?_) <;> first | with_reducible rfl | (simp; done)) | (with_reducible first | refine Ka _ ?_ | refine Ks _ (by first | exact Nat.le_refl _ | omega | (simp; done) | (simp; omega)) ?_ | refine Fd ?_ | refine Fn ?_ | refine Fb (by assumption) (by first | exact Nat.le_refl _ | omega | (simp; done) | (simp; omega)) ?_ | refine Fa _ (by first | exact Nat.le_refl _ | omega | (simp; done) | (simp; omega)) ?_ | refine Fs _ ?_))))⟩ ?_
  rintro w6 ⟨hl6, hb6, q0, q1⟩
  have HL6 := Lib.hid hl6
  have HC6 := Lib.hid ((HC3.out.below hb6).mono hb6.size)
  have HM6 := Lib.hid ((HM3.out.below hb6).mono hb6.size)
  obtain ⟨tb, htb⟩ : ∃ x, x = w3.heap.size := ⟨_, rfl⟩
  rw [← htb] at q0 q1
  rw [← htb]
  clear hl6 hb6 HL3 HC3 HM3 htb
  go_upto_block 0 with fail
  refine wp_world (fun w' => LawB W w' r b1 b2 ⟨bA, dA, vA, bc, dc, vc⟩ ⟨bA1, dA1, vA1, bc1, dc1, vc1⟩ ⟨bA2, dA2, vA2, bc2, dc2, vc2⟩ ∧ Below w6.heap.size w6 w' ∧ (w'.cell? ⟨tb, 0, none⟩ = some (.int .i64 s.a) ∧ w'.cell? ⟨tb, 1, none⟩ = some (.int .i64 s.b)) ∧ w'.cell? ⟨w6.heap.size, 0, none⟩ = some (.bool false) ∧ w'.cell? ⟨w6.heap.size, 1, none⟩ = some (.bool true)) ⟨HL6.out.later (by repeat (first | (with_reducible first | exact Below.refl _ _ | assumption | refine Below.drew ?_) | ((with_reducible first | refine Lc ?_ ?_ _ | refine Ls ?_ ?_ _ | refine Lv (by assumption) ?_ ?_); · first | exact Nat.le_refl _ | omega | (dsimp only; omega) | (simp only [World.size_alloc, World.size_drew, World.heap_drewN]; omega) | (simp; omega)))), (by repeat (first | (with_reducible first | exact Below.refl _ _ | assumption | refine Below.drew ?_) | ((with_reducible first | refine Lc ?_ ?_ _ | refine Ls ?_ ?_ _ | refine Lv (by assumption) ?_ ?_); · first | exact Nat.le_refl _ | omega | (dsimp only; omega) | (simp only [World.size_alloc, World.size_drew, World.heap_drewN]; omega) | (simp; omega)))), (by (repeat' refine And.intro ?_ ?_) <;> (repeat (first | with_reducible assumption | (simp; done) | (with_reducible first | refine Kd ?_ | refine Kn ?_ | refine Kb (by assumption) ?_) | ((with_reducible first | refine Kw ?_ ?_ | refine Fw ?_) <;> first | with_reducible rfl | (simp; done)) | (with_reducible first | refine Ka _ ?_ | refine Ks _ (by first | exact Nat.le_refl _ | omega | (simp; done) | (simp; omega)) ?_ | refine Fd ?_ | refine Fn ?_ | refine Fb (by assumption) (by first | exact Nat.le_refl _ | omega | (simp; done) | (simp; omega)) ?_ | refine Fa _ (by first | exact Nat.le_refl _ | omega | (simp; done) | (simp; omega)) ?_ | refine Fs _ ?_)))), (by (repeat' refine And.intro ?_ ?_) <;> (repeat (first | with_reducible assumption | (simp; done) | (with_reducible first | refine Kd ?_ | refine Kn ?_ | refine Kb (by assumption) ?_) | ((with_reducible first | refine Kw ?_ ?_ | refine Fw ?_) <;> first | with_reducible rfl | (simp; done)) | (with_reducible first | refine Ka _ ?_ | refine Ks _ (by first | exact Nat.le_refl _ | omega | (simp; done) | (simp; omega)) ?_ | refine Fd ?_ | refine Fn ?_ | refine Fb (by assumption) (by first | exact Nat.le_refl _ | omega | (simp; done) | (simp; omega)) ?_ | refine Fa _ (by first | exact Nat.le_refl _ | omega | (simp; done) | (simp; omega)) ?_ | refine Fs _ ?_))))⟩ ?_
  rintro w7 ⟨hl7, hb7, hq7, y0, y1⟩
  have HL7 := Lib.hid hl7
  have HC7 := Lib.hid ((HC6.out.below hb7).mono hb7.size)
  have HM7 := Lib.hid ((HM6.out.below hb7).mono hb7.size)
  have HQ7 := Lib.hid hq7
  have HY7 := Lib.hid (And.intro y0 y1)
  obtain ⟨ab, hab⟩ : ∃ x, x = w6.heap.size := ⟨_, rfl⟩
  rw [← hab] at HY7
  rw [← hab]
  clear hl7 hb7 hq7 y0 y1 q0 q1 HL6 HC6 HM6 hab
  refine proofs_loop r f t cA mA n cc mc P b1 b2 tb ab bA dA vA bA1 dA1 vA1 bA2 dA2 vA2 bc dc vc bc1 dc1 vc1 bc2 dc2 vc2 W s er HS HER hn1000 hnbig w7 HL7 HC7 HM7 HQ7 HY7 _ ?_
  intro y8 y15 y16 y17 y18 y19 y20 y21 y22 y23 y55 y56 y57 y58 y59 y60 y61 y62 y63 y64 y65 y66 y67 y68 y69 y70 y71 y72 y73 y74 y75 y76 y77 y78 y79 y80 y81 y82 y83 y84 y85 y86 y87 y88 y89 y90 y91 y92 y93 y94 y95 y96 y97 y98 y99 y100 y101 y102 y103 y104 y105 y106 y107 y108 y109 y110 y111 y112 y113 y114 y115 y116 y117 y118 y119 y120 y121 y122 y123 y124 y125 y126 y127 y128 y129 y130 w27 hend
  obtain ⟨HL, HB⟩ := hend
  have HC := Lib.hid ((HC7.out.below HB.out).mono HB.out.size)
  have HM := Lib.hid ((HM7.out.below HB.out).mono HB.out.size)
  clear HL7 HC7 HM7 HQ7 HY7 HB
  obtain ⟨c0, c1, c2⟩ := HL.out.s1
  go_wp2_with fail
  refine (Contradicts_any r mA n mc P bA1 dA1 vA1 bc1 dc1 vc1 _ HL.out.r1 HM.out hnbig).mono ?_
  rintro e w8 ⟨rfl, hb8⟩
  have HL8 := Lib.hid (HL.out.later hb8)
  have HC8 := Lib.hid ((HC.out.below hb8).mono hb8.size)
  have HM8 := Lib.hid ((HM.out.below hb8).mono hb8.size)
  obtain ⟨⟨i1, i2⟩, hss⟩ : ∃ s, s = r.contraR n P := ⟨_, rfl⟩
  have HRS : Hid (∀ (kA : Option Addr) (kc : Nat) (w : World), RwRow w w.heap.size r bA2 bc2 dA2 dc2 vA2 vc2 → FcRow w w.heap.size kA n P → Calls Tryz.prog 44 #[rwV bA2 r.n bc2 dA2 r.d dc2 vA2 r.m vc2, .slice kA n kc] w fun e w' => e = .returned (.tuple #[.bool i1, .int .i64 i2]) ∧ Below w.heap.size w w') := Lib.hid (fun kA kc w h1 h2 => by have h := rContradicts_any r kA n kc P bA2 dA2 vA2 bc2 dc2 vc2 w h1 h2 hnbig; rw [← hss] at h; exact h)
  rw [← hss]
  clear hb8 HL HC HM c0 c1 c2 hss
  obtain ⟨c0, c1, c2⟩ := HL8.out.s2
  go_upto_region 24 with fail
  go_cut [26, 27] (fun x y wx => x = .bool i1 ∧ y = .int .i64 i2 ∧ Hid (Below w8.heap.size w8 wx))
  case first =>
    go_region_held3 (fun w' => w'.cell? ⟨b2, 0, none⟩ = some (.slice bA2 r.n bc2) ∧ w'.cell? ⟨b2, 1, none⟩ = some (.slice dA2 r.d dc2) ∧ w'.cell? ⟨b2, 2, none⟩ = some (.slice vA2 r.m vc2)) ((go_split_ands; (repeat' refine And.intro ?_ ?_) <;> (repeat (first | with_reducible assumption | (simp; done) | (with_reducible first | refine Kd ?_ | refine Kn ?_ | refine Kb (by assumption) ?_) | ((with_reducible first | refine Kw ?_ ?_ | refine Fw ?_) <;> first | with_reducible rfl | (simp; done)) | (with_reducible first | refine Ka _ ?_ | refine Ks _ (by first | exact Nat.le_refl _ | omega | (simp; done) | (simp; omega)) ?_ | refine Fd ?_ | refine Fn ?_ | refine Fb (by assumption) (by first | exact Nat.le_refl _ | omega | (simp; done) | (simp; omega)) ?_ | refine Fa _ (by first | exact Nat.le_refl _ | omega | (simp; done) | (simp; omega)) ?_ | refine Fs _ ?_))))) (first | (go_at_call 41; refine (walked_any cA n cc P _ hn1000 ((HC8.out.below (show Below w8.heap.size w8 _ from (by repeat (first | (with_reducible first | exact Below.refl _ _ | refine Below.drew ?_ | refine below_drewN ?_ _) | ((with_reducible first | refine Lc ?_ ?_ _ | refine Ls ?_ ?_ _ | refine Lv (by assumption) ?_ ?_); · first | exact Nat.le_refl _ | omega | (simp; done) | (simp; omega) | (simp at *; omega)))))).mono (show Below w8.heap.size w8 _ from (by repeat (first | (with_reducible first | exact Below.refl _ _ | refine Below.drew ?_ | refine below_drewN ?_ _) | ((with_reducible first | refine Lc ?_ ?_ _ | refine Ls ?_ ?_ _ | refine Lv (by assumption) ?_ ?_); · first | exact Nat.le_refl _ | omega | (simp; done) | (simp; omega) | (simp at *; omega))))).size)).mono ?_; rintro e wk ⟨⟨kA, kc, rfl, hkr⟩, hbk⟩; have hhK := Lib.hid (show Below w8.heap.size w8 wk from (by repeat (first | (with_reducible first | exact Below.refl _ _ | assumption | refine Below.drew ?_) | ((with_reducible first | refine Lc ?_ ?_ _ | refine Ls ?_ ?_ _ | refine Lv (by assumption) ?_ ?_); · first | exact Nat.le_refl _ | omega | (dsimp only; omega) | (simp only [World.size_alloc, World.size_drew, World.heap_drewN]; omega) | (simp; omega))))); have hKR := Lib.hid hkr; clear hkr) | (go_at_call 44; refine (HRS.out kA kc _ (RwRow.onW HL8.out.r2 (hhK.out.trans ((show Below wk.heap.size wk _ from (by repeat (first | (with_reducible first | exact Below.refl _ _ | refine Below.drew ?_ | refine below_drewN ?_ _) | ((with_reducible first | refine Lc ?_ ?_ _ | refine Ls ?_ ?_ _ | refine Lv (by assumption) ?_ ?_); · first | exact Nat.le_refl _ | omega | (simp; done) | (simp; omega) | (simp at *; omega))))).mono hhK.out.size))) ((hKR.out.below (show Below wk.heap.size wk _ from (by repeat (first | (with_reducible first | exact Below.refl _ _ | refine Below.drew ?_ | refine below_drewN ?_ _) | ((with_reducible first | refine Lc ?_ ?_ _ | refine Ls ?_ ?_ _ | refine Lv (by assumption) ?_ ?_); · first | exact Nat.le_refl _ | omega | (simp; done) | (simp; omega) | (simp at *; omega)))))).mono (show Below wk.heap.size wk _ from (by repeat (first | (with_reducible first | exact Below.refl _ _ | refine Below.drew ?_ | refine below_drewN ?_ _) | ((with_reducible first | refine Lc ?_ ?_ _ | refine Ls ?_ ?_ _ | refine Lv (by assumption) ?_ ?_); · first | exact Nat.le_refl _ | omega | (simp; done) | (simp; omega) | (simp at *; omega))))).size)).mono ?_; rintro e wv ⟨rfl, hbv⟩; have hhV := Lib.hid (show Below w8.heap.size w8 wv from hhK.out.trans ((show Below wk.heap.size wk wv from (by repeat (first | (with_reducible first | exact Below.refl _ _ | assumption | refine Below.drew ?_) | ((with_reducible first | refine Lc ?_ ?_ _ | refine Ls ?_ ?_ _ | refine Lv (by assumption) ?_ ?_); · first | exact Nat.le_refl _ | omega | (dsimp only; omega) | (simp only [World.size_alloc, World.size_drew, World.heap_drewN]; omega) | (simp; omega))))).mono hhK.out.size))) | fail)
    all_goals
      go_wp2_with fail
      go_meet
      exact ⟨rfl, rfl, Lib.hid (by first | exact hhV.out | exact below_drewN hhV.out _ | exact hhV.out.drew)⟩
  case rest =>
    obtain ⟨rfl, rfl, hb9⟩ := hcut
    have hb9 := hb9.out
    have HL9 := Lib.hid (HL8.out.later hb9)
    have HC9 := Lib.hid ((HC8.out.below hb9).mono hb9.size)
    have HM9 := Lib.hid ((HM8.out.below hb9).mono hb9.size)
    have hn1 : (i1 != i1) = false := by cases i1 <;> rfl
    have hn2 : (i2 != i2) = false := by simp
    clear hb9 HL8 HC8 HM8 c0 c1 c2 HRS
    obtain ⟨c0, c1, c2⟩ := HL9.out.s2
    go_wp2_with fail
    refine (rfitting_any r bA2 dA2 vA2 bc2 dc2 vc2 _ HL9.out.r2).mono ?_
    rintro e w10 ⟨rfl, hb10⟩
    have HL10 := Lib.hid (HL9.out.later hb10)
    have HC10 := Lib.hid ((HC9.out.below hb10).mono hb10.size)
    have HM10 := Lib.hid ((HM9.out.below hb10).mono hb10.size)
    clear hb10 HL9 HC9 HM9 c0 c1 c2 hn1 hn2
    obtain ⟨c0, c1, c2⟩ := HL10.out.s1
    by_cases hck : r.check = 0
    · by_cases hrd : r.round = []
      · have hfe : r.fitErr = 0 := by unfold Rw.fitErr; rw [if_neg (fun hh => hh hck), hrd]; rfl
        have HCK := Lib.hid (And.intro hck hrd)
        rw [hfe]
        clear hfe hck hrd
        go_wp2_with fail
        refine (Round_any r bA1 dA1 vA1 bc1 dc1 vc1 _ HL10.out.r1).mono ?_
        intro e w11 hp
        rcases hp with ⟨_, h2, _⟩ | ⟨_, _, rfl, hb11⟩ | ⟨h2, _⟩
        · exact absurd HCK.out.2 h2
        · have HL11 := Lib.hid (HL10.out.later hb11)
          have HC11 := Lib.hid ((HC10.out.below hb11).mono hb11.size)
          have HM11 := Lib.hid ((HM10.out.below hb11).mono hb11.size)
          clear hb11 HL10 HC10 HM10 c0 c1 c2
          obtain ⟨c0, c1, c2⟩ := HL11.out.s1
          obtain ⟨a0, a1, a2⟩ := HL11.out.s0
          go_wp2_with fail
          refine (same_any r bA1 dA1 vA1 bA dA vA bc1 dc1 vc1 bc dc vc _ HL11.out.r1 HL11.out.r0).mono ?_
          rintro e w21 ⟨rfl, hb21⟩
          have HL21 := Lib.hid (HL11.out.later hb21)
          have HC21 := Lib.hid ((HC11.out.below hb21).mono hb21.size)
          have HM21 := Lib.hid ((HM11.out.below hb21).mono hb21.size)
          clear hb21 HL11 HC11 HM11 c0 c1 c2 a0 a1 a2
          go_wp2_with fail
          refine (alikeS_fc mA cA n mc cc P _ HM21.out HC21.out hn1000).mono ?_
          rintro e w22 ⟨rfl, hb22⟩
          have HB22 := Lib.hid (HL21.out.later hb22).l
          clear hb22 HL21 HC21 HM21
          go_wp2_with fail
          refine (awake_any _).mono ?_
          rintro e w23 ⟨rfl, hb23⟩
          have HB23 := Lib.hid (HB22.out.trans (hb23.mono HB22.out.size))
          clear hb23 HB22
          go_wp2_with fail
          go_ret
          exact ⟨rfl, HB23.out⟩
        · exact absurd HCK.out.1 h2
      · have hfe : r.fitErr = 7 := by
          unfold Rw.fitErr
          rw [if_neg (fun hh => hh hck), if_neg (fun hh => hrd (List.length_eq_zero_iff.1 hh))]
        have HOK := Lib.hid (Rw.check_ok.1 hck)
        have HCK := Lib.hid (And.intro hck hrd)
        rw [hfe]
        clear hfe hck hrd
        go_wp2_with fail
        refine (Round_any r bA1 dA1 vA1 bc1 dc1 vc1 _ HL10.out.r1).mono ?_
        intro e w11 hp
        rcases hp with ⟨_, h2, kA0, kc0, rfl, hown, hb11⟩ | ⟨_, h2, _⟩ | ⟨h2, _⟩
        · obtain ⟨h12, hct⟩ := round_contra HOK.out h2
          obtain ⟨l, hl⟩ : ∃ l, l = r.round := ⟨_, rfl⟩
          rw [← hl] at hown h12 hct
          rw [← hl]
          obtain ⟨A', c', e1, ho, _⟩ := ownFc_of hown rfl
          injection e1 with e1 _ e3
          subst e1 e3
          have hl1000 : l.length ≤ 1000 := by omega
          have hlbig : l.length ≤ 1000000000 := by omega
          have HP11 := Lib.hid ho.row
          have HL11 := Lib.hid (HL10.out.later hb11)
          have HC11 := Lib.hid ((HC10.out.below hb11).mono hb11.size)
          have HM11 := Lib.hid ((HM10.out.below hb11).mono hb11.size)
          have HRS : Hid (∀ (kA : Option Addr) (kc : Nat) (w : World), RwRow w w.heap.size r bA2 bc2 dA2 dc2 vA2 vc2 → FcRow w w.heap.size kA l.length (fun k => l.getD k fc0) → Calls Tryz.prog 44 #[rwV bA2 r.n bc2 dA2 r.d dc2 vA2 r.m vc2, .slice kA l.length kc] w fun e w' => e = .returned (.tuple #[.bool true, .int .i64 0]) ∧ Below w.heap.size w w') := Lib.hid (fun kA kc w h1 h2 => by have h := rContradicts_any r kA l.length kc (fun k => l.getD k fc0) bA2 dA2 vA2 bc2 dc2 vc2 w h1 h2 hlbig; rw [hct] at h; exact h)
          clear hb11 hown ho h12 hct hl h2 HL10 HC10 HM10 c0 c1 c2
          obtain ⟨c0, c1, c2⟩ := HL11.out.s2
          go_upto_region 33 with fail
          go_cut [30, 31] (fun x y wx => x = .bool true ∧ y = .int .i64 0 ∧ Hid (Below w11.heap.size w11 wx))
          case first =>
            go_region_held3 (fun w' => w'.cell? ⟨b2, 0, none⟩ = some (.slice bA2 r.n bc2) ∧ w'.cell? ⟨b2, 1, none⟩ = some (.slice dA2 r.d dc2) ∧ w'.cell? ⟨b2, 2, none⟩ = some (.slice vA2 r.m vc2)) ((go_split_ands; (repeat' refine And.intro ?_ ?_) <;> (repeat (first | with_reducible assumption | (simp; done) | (with_reducible first | refine Kd ?_ | refine Kn ?_ | refine Kb (by assumption) ?_) | ((with_reducible first | refine Kw ?_ ?_ | refine Fw ?_) <;> first | with_reducible rfl | (simp; done)) | (with_reducible first | refine Ka _ ?_ | refine Ks _ (by first | exact Nat.le_refl _ | omega | (simp; done) | (simp; omega)) ?_ | refine Fd ?_ | refine Fn ?_ | refine Fb (by assumption) (by first | exact Nat.le_refl _ | omega | (simp; done) | (simp; omega)) ?_ | refine Fa _ (by first | exact Nat.le_refl _ | omega | (simp; done) | (simp; omega)) ?_ | refine Fs _ ?_))))) (first | (go_at_call 41; refine (walked_any kA0 l.length kc0 (fun k => l.getD k fc0) _ hl1000 ((HP11.out.below (show Below w11.heap.size w11 _ from (by repeat (first | (with_reducible first | exact Below.refl _ _ | refine Below.drew ?_ | refine below_drewN ?_ _) | ((with_reducible first | refine Lc ?_ ?_ _ | refine Ls ?_ ?_ _ | refine Lv (by assumption) ?_ ?_); · first | exact Nat.le_refl _ | omega | (simp; done) | (simp; omega) | (simp at *; omega)))))).mono (show Below w11.heap.size w11 _ from (by repeat (first | (with_reducible first | exact Below.refl _ _ | refine Below.drew ?_ | refine below_drewN ?_ _) | ((with_reducible first | refine Lc ?_ ?_ _ | refine Ls ?_ ?_ _ | refine Lv (by assumption) ?_ ?_); · first | exact Nat.le_refl _ | omega | (simp; done) | (simp; omega) | (simp at *; omega))))).size)).mono ?_; rintro e wk ⟨⟨kA, kc, rfl, hkr⟩, hbk⟩; have hhK := Lib.hid (show Below w11.heap.size w11 wk from (by repeat (first | (with_reducible first | exact Below.refl _ _ | assumption | refine Below.drew ?_) | ((with_reducible first | refine Lc ?_ ?_ _ | refine Ls ?_ ?_ _ | refine Lv (by assumption) ?_ ?_); · first | exact Nat.le_refl _ | omega | (dsimp only; omega) | (simp only [World.size_alloc, World.size_drew, World.heap_drewN]; omega) | (simp; omega))))); have hKR := Lib.hid hkr; clear hkr) | (go_at_call 44; refine (HRS.out kA kc _ (RwRow.onW HL11.out.r2 (hhK.out.trans ((show Below wk.heap.size wk _ from (by repeat (first | (with_reducible first | exact Below.refl _ _ | refine Below.drew ?_ | refine below_drewN ?_ _) | ((with_reducible first | refine Lc ?_ ?_ _ | refine Ls ?_ ?_ _ | refine Lv (by assumption) ?_ ?_); · first | exact Nat.le_refl _ | omega | (simp; done) | (simp; omega) | (simp at *; omega))))).mono hhK.out.size))) ((hKR.out.below (show Below wk.heap.size wk _ from (by repeat (first | (with_reducible first | exact Below.refl _ _ | refine Below.drew ?_ | refine below_drewN ?_ _) | ((with_reducible first | refine Lc ?_ ?_ _ | refine Ls ?_ ?_ _ | refine Lv (by assumption) ?_ ?_); · first | exact Nat.le_refl _ | omega | (simp; done) | (simp; omega) | (simp at *; omega)))))).mono (show Below wk.heap.size wk _ from (by repeat (first | (with_reducible first | exact Below.refl _ _ | refine Below.drew ?_ | refine below_drewN ?_ _) | ((with_reducible first | refine Lc ?_ ?_ _ | refine Ls ?_ ?_ _ | refine Lv (by assumption) ?_ ?_); · first | exact Nat.le_refl _ | omega | (simp; done) | (simp; omega) | (simp at *; omega))))).size)).mono ?_; rintro e wv ⟨rfl, hbv⟩; have hhV := Lib.hid (show Below w11.heap.size w11 wv from hhK.out.trans ((show Below wk.heap.size wk wv from (by repeat (first | (with_reducible first | exact Below.refl _ _ | assumption | refine Below.drew ?_) | ((with_reducible first | refine Lc ?_ ?_ _ | refine Ls ?_ ?_ _ | refine Lv (by assumption) ?_ ?_); · first | exact Nat.le_refl _ | omega | (dsimp only; omega) | (simp only [World.size_alloc, World.size_drew, World.heap_drewN]; omega) | (simp; omega))))).mono hhK.out.size))) | fail)
            all_goals
              go_wp2_with fail
              go_meet
              exact ⟨rfl, rfl, Lib.hid (by first | exact hhV.out | exact below_drewN hhV.out _ | exact hhV.out.drew)⟩
          case rest =>
            obtain ⟨rfl, rfl, hb12⟩ := hcut
            have hb12 := hb12.out
            have HL12 := Lib.hid (HL11.out.later hb12)
            have HC12 := Lib.hid ((HC11.out.below hb12).mono hb12.size)
            have HM12 := Lib.hid ((HM11.out.below hb12).mono hb12.size)
            clear hb12 HL11 HC11 HM11 c0 c1 c2 HRS HP11
            obtain ⟨c0, c1, c2⟩ := HL12.out.s1
            obtain ⟨a0, a1, a2⟩ := HL12.out.s0
            go_wp2_with fail
            refine (same_any r bA1 dA1 vA1 bA dA vA bc1 dc1 vc1 bc dc vc _ HL12.out.r1 HL12.out.r0).mono ?_
            rintro e w21 ⟨rfl, hb21⟩
            have HL21 := Lib.hid (HL12.out.later hb21)
            have HC21 := Lib.hid ((HC12.out.below hb21).mono hb21.size)
            have HM21 := Lib.hid ((HM12.out.below hb21).mono hb21.size)
            clear hb21 HL12 HC12 HM12 c0 c1 c2 a0 a1 a2
            go_wp2_with fail
            refine (alikeS_fc mA cA n mc cc P _ HM21.out HC21.out hn1000).mono ?_
            rintro e w22 ⟨rfl, hb22⟩
            have HB22 := Lib.hid (HL21.out.later hb22).l
            clear hb22 HL21 HC21 HM21
            go_wp2_with fail
            refine (awake_any _).mono ?_
            rintro e w23 ⟨rfl, hb23⟩
            have HB23 := Lib.hid (HB22.out.trans (hb23.mono HB22.out.size))
            clear hb23 HB22
            go_wp2_with fail
            go_ret
            exact ⟨rfl, HB23.out⟩
        · exact absurd h2 HCK.out.2
        · exact absurd HCK.out.1 h2
    · have hfe : r.fitErr = r.check := by unfold Rw.fitErr; rw [if_pos hck]
      have HCK := Lib.hid hck
      have hbd := Rw.check_bd r
      rw [hfe]
      obtain ⟨er2, her2⟩ : ∃ x, x = r.check := ⟨_, rfl⟩
      have HE2 := Lib.hid her2
      rw [← her2] at hck hbd ⊢
      have g0 : (er2 == 0) = false := by rw [beq_eq_false_iff_ne]; exact hck
      have g7 : (er2 == 7) = false := by rw [beq_eq_false_iff_ne]; omega
      have gg : (er2 != er2) = false := by simp
      clear hfe hck hbd her2
      go_wp2_with fail
      refine (Round_any r bA1 dA1 vA1 bc1 dc1 vc1 _ HL10.out.r1).mono ?_
      intro e w11 hp
      rcases hp with ⟨h2, _⟩ | ⟨h2, _⟩ | ⟨_, rfl, hb11⟩
      · exact absurd h2 HCK.out
      · exact absurd h2 HCK.out
      · rw [← HE2.out]
        have HL11 := Lib.hid (HL10.out.later hb11)
        have HC11 := Lib.hid ((HC10.out.below hb11).mono hb11.size)
        have HM11 := Lib.hid ((HM10.out.below hb11).mono hb11.size)
        clear hb11 HL10 HC10 HM10 c0 c1 c2
        obtain ⟨c0, c1, c2⟩ := HL11.out.s1
        obtain ⟨a0, a1, a2⟩ := HL11.out.s0
        go_wp2_with fail
        refine (same_any r bA1 dA1 vA1 bA dA vA bc1 dc1 vc1 bc dc vc _ HL11.out.r1 HL11.out.r0).mono ?_
        rintro e w21 ⟨rfl, hb21⟩
        have HL21 := Lib.hid (HL11.out.later hb21)
        have HC21 := Lib.hid ((HC11.out.below hb21).mono hb21.size)
        have HM21 := Lib.hid ((HM11.out.below hb21).mono hb21.size)
        clear hb21 HL11 HC11 HM11 c0 c1 c2 a0 a1 a2
        go_wp2_with fail
        refine (alikeS_fc mA cA n mc cc P _ HM21.out HC21.out hn1000).mono ?_
        rintro e w22 ⟨rfl, hb22⟩
        have HB22 := Lib.hid (HL21.out.later hb22).l
        clear hb22 HL21 HC21 HM21
        go_wp2_with fail
        refine (awake_any _).mono ?_
        rintro e w23 ⟨rfl, hb23⟩
        have HB23 := Lib.hid (HB22.out.trans (hb23.mono HB22.out.size))
        clear hb23 HB22
        go_wp2_with fail
        go_ret
        exact ⟨rfl, HB23.out⟩

set_option maxRecDepth 100000 in
theorem proofs_long (r : Rw) (f t : Int) (cA : Option Addr) (n cc : Nat) (bA dA vA : Option Addr) (bc dc vc : Nat) (W : World) (h : r.longB = true ∨ 24 < n) :
    Calls Tryz.prog 7 #[rwV bA r.n bc dA r.d dc vA r.m vc, .int .i64 f, .int .i64 t, .slice cA n cc] W fun e W' => e = .returned (.bool true) ∧ Below W.heap.size W W' := by
  cases hl : r.longB with
  | true =>
    have H := Lib.hid hl
    clear h hl
    go_enter Tryz.func7, Tryz.ntmps7
    go_wp2_with fail
    refine (long_any r bA dA vA bc dc vc _).mono ?_
    rintro e w1 ⟨rfl, hb1⟩
    rw [H.out]
    have HB1 := Lib.hid (show Below W.heap.size W w1 from (by repeat (first | (with_reducible first | exact Below.refl _ _ | refine Below.drew ?_ | refine below_drewN ?_ _) | ((with_reducible first | refine Lc ?_ ?_ _ | refine Ls ?_ ?_ _ | refine Lv (by assumption) ?_ ?_); · first | exact Nat.le_refl _ | omega | (simp; done) | (simp; omega) | (simp at *; omega)))))
    clear hb1
    go_wp2_with fail
    refine (awake_any _).mono ?_
    rintro e w2 ⟨rfl, hb2⟩
    have HB2 := Lib.hid (HB1.out.trans (hb2.mono HB1.out.size))
    clear hb2
    go_wp2_with fail
    go_ret
    exact ⟨rfl, HB2.out⟩
  | false =>
    have g5 : (24 : Int) < (n : Int) := by
      rcases h with h | h
      · rw [hl] at h; cases h
      · omega
    have H := Lib.hid hl
    clear h hl
    go_enter Tryz.func7, Tryz.ntmps7
    go_wp2_with fail
    refine (long_any r bA dA vA bc dc vc _).mono ?_
    rintro e w1 ⟨rfl, hb1⟩
    rw [H.out]
    have HB1 := Lib.hid (show Below W.heap.size W w1 from (by repeat (first | (with_reducible first | exact Below.refl _ _ | refine Below.drew ?_ | refine below_drewN ?_ _) | ((with_reducible first | refine Lc ?_ ?_ _ | refine Ls ?_ ?_ _ | refine Lv (by assumption) ?_ ?_); · first | exact Nat.le_refl _ | omega | (simp; done) | (simp; omega) | (simp at *; omega)))))
    clear hb1
    go_wp2_with fail
    refine (awake_any _).mono ?_
    rintro e w2 ⟨rfl, hb2⟩
    have HB2 := Lib.hid (HB1.out.trans (hb2.mono HB1.out.size))
    clear hb2
    go_wp2_with fail
    go_ret
    exact ⟨rfl, HB2.out⟩
theorem proofs_any (r : Rw) (f t : Int) (cA : Option Addr) (n cc : Nat) (P : Nat → Fc) (bA dA vA : Option Addr) (bc dc vc : Nat) (W : World) (h : RowIn W r bA bc dA dc vA vc) (hc : FcRow W W.heap.size cA n P) (hcap : n ≤ cc) :
    Calls Tryz.prog 7 #[rwV bA r.n bc dA r.d dc vA r.m vc, .int .i64 f, .int .i64 t, .slice cA n cc] W fun e W' => e = .returned (.bool true) ∧ Below W.heap.size W W' := by
  by_cases hh : r.longB = true ∨ 24 < n
  · exact proofs_long r f t cA n cc bA dA vA bc dc vc W hh
  · have hl : r.longB = false := by
      cases e : r.longB with
      | false => rfl
      | true => exact absurd (.inl e) hh
    exact proofs_law r f t cA n cc P bA dA vA bc dc vc W (h.row hl) hl (by
      by_cases h5 : 24 < n
      · exact absurd (.inr h5) hh
      · omega) hc
end Go.Proofs.YtnnikeolgknfoaaGreat

set_option linter.unusedSimpArgs false
set_option linter.unusedVariables false
namespace Go.Proofs.YtnnikeolgknfoaaGreat
open Go.ChangeShapes Go.WideShapes Go.ChangeAt Go.RowKit Go.Deep Go.Joins
section
variable {H : Type} {enc : TypeId × Value → H} {w : World} {base : Nat} {spare : Nat → Bool} {held : Bool}
theorem cells_fc : Tryz.prog.cellsOf 76 = 3 := by kernel_rfl
def FcCs (cs : List Value) : Prop := ∃ (a : Bool) (i : Int) (m : Bool), cs[0]? = some (.bool a) ∧ cs[1]? = some (.int .i64 i) ∧ cs[2]? = some (.bool m)
set_option maxRecDepth 100000 in
theorem num_fc {fuel : Nat} {cs : List Value} {x : DataW H × List MemPlace} (h : DataW.trod enc Tryz.prog w base spare held fuel 76 cs = some x) : FcCs cs := by
  obtain ⟨y0, y1, y2, n, -, hl, h0, h1, h2⟩ := trod_struct3 Tryz.underlying76 h
  obtain ⟨z0, e0, _⟩ := DataW.trod_bool Tryz.underlying4 h0
  obtain ⟨z1, e1⟩ := num_int Tryz.underlying3 h1
  obtain ⟨z2, e2, _⟩ := DataW.trod_bool Tryz.underlying4 h2
  exact ⟨z0, z1, z2, part_get (j := 0) e0 rfl, part_get (j := 0) e1 rfl, part_get (j := 0) e2 rfl⟩
set_option maxRecDepth 100000 in
theorem open_fcrow {fuel : Nat} {v : Value} {x : DataW H × List MemPlace} (h : DataW.trod enc Tryz.prog w base spare held fuel 73 [v] = some x) : ∃ A n c P, v = .slice A n c ∧ FcRow w w.heap.size A n P ∧ n ≤ c := by
  rcases open_cellsQ (N := 3) (Q := FcCs) fcs_under cells_fc (fun f cs x h => num_fc h) h with h0 | ⟨a, len, cap, hcs, hl, hc⟩
  · injection h0 with h0
    exact ⟨none, 0, 0, fun _ => ⟨false, 0, false⟩, h0, fun k hk => absurd hk (by omega), Nat.le_refl _⟩
  · injection hcs with hcs
    have key : ∀ k, k < len → w.cell? (a.add (k * 3 + 0)) = some (.bool (boolAt w (a.add (k * 3 + 0)))) ∧ w.cell? (a.add (k * 3 + 1)) = some (.int .i64 (numAt w (a.add (k * 3 + 1)))) ∧ w.cell? (a.add (k * 3 + 2)) = some (.bool (boolAt w (a.add (k * 3 + 2)))) := fun k hk => by
      obtain ⟨cs', ⟨z0, z1, z2, e0, e1, e2⟩, hq⟩ := hc k hk
      exact ⟨boolAt_eq (z := z0) (by rw [hq 0 (by decide), e0]), numAt_eq (z := z1) (by rw [hq 1 (by decide), e1]), boolAt_eq (z := z2) (by rw [hq 2 (by decide), e2])⟩
    refine ⟨some a, len, cap, fun k => ⟨boolAt w (a.add (k * 3 + 0)), numAt w (a.add (k * 3 + 1)), boolAt w (a.add (k * 3 + 2))⟩, hcs, fun k hk => ?_, hl⟩
    obtain ⟨c0, c1, c2⟩ := key k hk
    have hsp : a.spot = none := by
      have := (key 0 (by omega)).1
      simpa [Addr.add] using World.cell?_spot this
    obtain ⟨b, o, sp⟩ := a
    simp only at hsp
    subst hsp
    simp only [lit_add] at *
    exact ⟨b, o, rfl, World.block_lt_of_cell? w _ c0, c0, c1, c2⟩
end
end Go.Proofs.YtnnikeolgknfoaaGreat

set_option linter.unusedSimpArgs false
set_option linter.unusedVariables false
namespace Go.Proofs.YtnnikeolgknfoaaGreat
open Go.ChangeShapes Go.WideShapes Go.ChangeAt Go.RowKit Go.Deep Go.Joins

section
variable {H : Type} {enc : TypeId × Value → H} {w : World} {base : Nat} {spare : Nat → Bool} {held : Bool}

set_option maxRecDepth 100000 in
theorem open_bytes {fuel : Nat} {v : Value} {x : DataW H × List MemPlace} (h : DataW.trod enc Tryz.prog w base spare held fuel 92 [v] = some x) : ∃ A n c, v = .slice A n c ∧ ByIn w w.heap.size A n ∧ n ≤ maxLen := by
  rcases open_slice (e := 5) Tryz.underlying92 h with ⟨h0, _⟩ | ⟨a, len, cap, m, n, D, Pl, hcs, hb, hl, hm, hmm, hx, hi⟩
  · injection h0 with h0
    exact ⟨none, 0, 0, h0, fun k hk => absurd hk (by omega), Nat.zero_le _⟩
  · injection hcs with hcs
    have each : ∀ i, i < len → ∃ z, w.cell? (a.add i) = some (.int .u8 z) ∧ 0 ≤ z ∧ z ≤ 255 := fun k hk => by
      have him : k < m := by rw [hmm]; split <;> omega
      obtain ⟨cs', hc, ht'⟩ := hi k him
      rw [show Tryz.prog.cellsOf 5 = 1 by kernel_rfl, Nat.mul_one] at hc
      obtain ⟨_, hcl, hat⟩ := World.cells?_some hc
      obtain ⟨z, hz, hw⟩ := DataW.trod_int Tryz.underlying5 ht'
      have hcell := hat 0 (by omega)
      rw [hz] at hcell
      exact ⟨z, by simpa [Addr.add] using hcell, bounds_u8 hw.2⟩
    refine ⟨some a, len, cap, hcs, fun k hk => ?_, by omega⟩
    obtain ⟨z, hc0, hz⟩ := each k hk
    have hsp : a.spot = none := by
      obtain ⟨z0, h10, _⟩ := each 0 (by omega)
      simpa [Addr.add] using World.cell?_spot h10
    obtain ⟨b, o, sp⟩ := a
    simp only at hsp
    subst hsp
    have e : ∀ j, (⟨b, o, none⟩ : Addr).add j = ⟨b, o + j, none⟩ := fun j => Addr.add_lit _ _ _
    exact ⟨b, o, z, rfl, by have := World.block_lt_of_cell? w _ hc0; rw [e] at this; exact this, (congrArg w.cell? (e k)).symm.trans hc0, hz⟩
end
end Go.Proofs.YtnnikeolgknfoaaGreat

set_option linter.unusedSimpArgs false
set_option linter.unusedVariables false
namespace Go.Proofs.YtnnikeolgknfoaaGreat
open Go.ChangeShapes Go.WideShapes Go.ChangeAt Go.RowKit

set_option maxRecDepth 100000 in
set_option maxHeartbeats 1000000 in
theorem proofs_lifted (os : Os) (started : os.Started) (H : Type) (enc : TypeId × Value → H) :
    ReturnsInHanded {} Tryz.checked os 7 .any (Rows.binProofsSpec.pre6 enc Tryz.prog Tryz.f7 Rows.binProofsRow.domain false) (Rows.binProofsSpec.post enc Tryz.prog Tryz.f7 false true false false) := by
  refine returnsInHanded_of_change (C := Tryz.checked) own_knob started (by kernel_rfl) Tryz.func7
    (ChangeSpec.witness6 (enc := enc) (C := Tryz.checked) false ⟨#[], #[.agg #[.slice none 0 0, .slice none 0 0, .slice none 0 0], .int .i64 0, .int .i64 0, .slice none 0 0], []⟩ 8 (by kernel_rfl) (by kernel_rfl) (by kernel_rfl) (by kernel_rfl)) ?_
  intro W base args ds gs before hval0 hW hcnd _
  have hval : ∀ (j : Nat) t v, Tryz.f7.params[j]? = some t → args[j]? = some v → Value.okWide Tryz.prog W .any base t v := hval0
  have hW' := hW
  obtain ⟨p, q, hA0, hV, rfl, hfz, hnd⟩ := hW
  have hA : DataW.TrodAll enc Tryz.prog W 0 (fun _ => true) true Tryz.f7.params.toList args.toList ds p := hA0
  rw [Tryz.params7] at hA hval
  obtain ⟨v0, v1, v2, v3, d0, d1, d2, d3, p0, p1, p2, p3, rfl, rfl, rfl, h0, h1, h2, h3⟩ := trodAll_four hA
  obtain ⟨rfl, rfl⟩ := trodVars_none hV
  obtain ⟨r0, bA0, dA0, vA0, bc0, dc0, vc0, rfl, hin0⟩ := open_brow (hval 0 26 v0 rfl rfl) h0
  obtain ⟨k1, rfl, rfl, rfl, w1⟩ := open_int Tryz.underlying3 (hval 1 3 v1 rfl rfl) h1
  obtain ⟨k2, rfl, rfl, rfl, w2⟩ := open_int Tryz.underlying3 (hval 2 3 v2 rfl rfl) h2
  obtain ⟨a3, n3, c3, rfl⟩ := okWide_slice Tryz.underlying73 (hval 3 73 v3 rfl rfl)
  have h3k := h3
  obtain ⟨f3, g3⟩ := h3
  obtain ⟨A, n, c, X3, hv, hl3, hc3⟩ := open_fcrow (v := .slice a3 n3 c3) g3
  injection hv with hv1 hv2 hv3
  subst hv1 hv2 hv3
  clear hA0 hval0
  simp only [List.append_nil] at hW'
  have hlt0 : ∀ x ∈ p0, x.block < W.heap.size := fun x hx => hW'.lt x (by simp [hx])
  have hlt3 : ∀ x ∈ p3, x.block < W.heap.size := fun x hx => hW'.lt x (by simp [hx])
  refine (proofs_any r0 k1 k2 a3 n3 c3 X3 bA0 dA0 vA0 bc0 dc0 vc0 W hin0 hl3 hc3).mono fun e W' ⟨he, bel⟩ => ?_
  subst he
  exact ⟨_, rfl, _, _, _, [], _, [], hW', trodAll_mk1 (shut_bool Tryz.underlying4 true),
    trodAll_mk4 (Below.trod laid_out (by kernel_rfl) (of_decide_eq_true (by kernel_rfl)) h0 bel hlt0) (shut_int Tryz.underlying3 w1) (shut_int Tryz.underlying3 w2) (Below.trod laid_out (by kernel_rfl) (of_decide_eq_true (by kernel_rfl)) h3k bel hlt3), rfl, bel.frame _, fun h => by cases h⟩

theorem bin_proofs_holds : Rows.BinProofsSaid :=
  OpenClaim.holds_of_wide 7 Tryz.f7 rfl rfl rfl rfl rfl rfl rfl ⟨rfl, rfl, rfl, rfl, rfl⟩ rfl rfl rfl rfl rfl (by kernel_rfl) Tryz.func7 (by kernel_rfl)
    (of_decide_eq_true (by kernel_rfl)) (by unfold Func.isWrapper; first | (rw [if_pos (by decide +kernel)]; kernel_rfl) | (rw [if_neg (by decide +kernel)]; exact ⟨rfl, rfl⟩))
    (fun os started H enc _ => proofs_lifted os started H enc)
#print axioms bin_proofs_holds
end Go.Proofs.YtnnikeolgknfoaaGreat
