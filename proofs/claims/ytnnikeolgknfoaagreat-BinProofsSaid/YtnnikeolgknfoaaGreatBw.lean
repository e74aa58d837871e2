/- bin.Next. -/
import Derived.Test.YtnnikeolgknfoaaGreatBv
set_option linter.unusedSimpArgs false
set_option linter.unusedVariables false
namespace Go.Proofs.YtnnikeolgknfoaaGreat
open Go.RowKit Go.Shelf

def nxStep (L : Nat → Nat → Int) (n a b : Nat) (x : Nat × Nat × Int) : Nat × Nat × Int := if settled L a b n < x.2.2 then (a, b, settled L a b n) else x
def nxRow (L : Nat → Nat → Int) (n a : Nat) (x : Nat × Nat × Int) : Nat → Nat × Nat × Int
  | 0 => x
  | k + 1 => nxStep L n a (a + k) (nxRow L n a x k)
def nxAll (L : Nat → Nat → Int) (n : Nat) : Nat → Nat × Nat × Int
  | 0 => (0, 0, far)
  | a + 1 => nxRow L n a (nxAll L n a) (n - a)
/-- the bins that leave the least width, or the error -/
def Rw.nextR (r : Rw) : Nat × Nat × Int := if r.fitErr = 0 then nxAll r.search.1.L r.n r.n else (0, 0, 0)
set_option maxRecDepth 100000 in
set_option maxHeartbeats 4000000 in
theorem Next_any (r : Rw) (bA dA vA : Option Addr) (bc dc vc : Nat) (W : World) (hrow : RwRow W W.heap.size r bA bc dA dc vA vc) :
    Calls Tryz.prog 29 #[rwV bA r.n bc dA r.d dc vA r.m vc] W fun e W' => e = .returned (.tuple #[.int .i64 (r.nextR.1 : Nat), .int .i64 (r.nextR.2.1 : Nat), .int .i64 r.nextR.2.2, .int .i64 r.fitErr]) ∧ Below W.heap.size W W' := by
  have H0 := Lib.hid hrow
  clear hrow
  go_enter Tryz.func29, Tryz.ntmps29
  go_wp2_with fail
  refine (fitting_any r bA dA vA bc dc vc _ ((H0.out.later (by repeat (first | (with_reducible first | exact Below.refl _ _ | assumption | refine Below.drew ?_) | ((with_reducible first | refine Lc ?_ ?_ _ | refine Ls ?_ ?_ _ | refine Lv (by assumption) ?_ ?_); · first | exact Nat.le_refl _ | omega | (dsimp only; omega) | (simp only [World.size_alloc, World.size_drew, World.heap_drewN]; omega) | (simp; omega))))).up (by first | exact Nat.le_refl _ | omega | (simp; done) | (simp; omega) | (simp at *; omega)) (by first | exact Nat.le_refl _ | omega | (simp; done) | (simp; omega) | (simp at *; omega)))).mono ?_
  rintro e w1 (⟨h0, db, A, c, rfl, hdb, hd, ho, hb1⟩ | ⟨h0, rfl, hb1⟩)
  · have HB1 := Lib.hid (show Below W.heap.size W w1 from (by repeat (first | (with_reducible first | exact Below.refl _ _ | refine Below.drew ?_ | refine below_drewN ?_ _) | ((with_reducible first | refine Lc ?_ ?_ _ | refine Ls ?_ ?_ _ | refine Lv (by assumption) ?_ ?_); · first | exact Nat.le_refl _ | omega | (simp; done) | (simp; omega) | (simp at *; omega)))))
    have c0 : w1.cell? ⟨W.heap.size, 0, none⟩ = some (.slice bA r.n bc) := Kb hb1 (by (repeat' refine And.intro ?_ ?_) <;> (repeat (first | with_reducible assumption | (simp; done) | (with_reducible first | refine Kd ?_ | refine Kn ?_ | refine Kb (by assumption) ?_) | ((with_reducible first | refine Kw ?_ ?_ | refine Fw ?_) <;> first | with_reducible rfl | (simp; done)) | (with_reducible first | refine Ka _ ?_ | refine Ks _ (by first | exact Nat.le_refl _ | omega | (simp; done) | (simp; omega)) ?_ | refine Fd ?_ | refine Fn ?_ | refine Fb (by assumption) (by first | exact Nat.le_refl _ | omega | (simp; done) | (simp; omega)) ?_ | refine Fa _ (by first | exact Nat.le_refl _ | omega | (simp; done) | (simp; omega)) ?_ | refine Fs _ ?_))))
    obtain ⟨hok, hrd⟩ := Rw.fit_ok h0
    have HFI := Lib.hid (Rw.fin_of hok hrd)
    have hn6 := hok.n6
    have HV : Hid (r.nextR = nxAll r.search.1.L r.n r.n) := Lib.hid (by unfold Rw.nextR; rw [if_pos h0])
    have HA := Lib.hid hd.a.a
    have HL := Lib.hid hd.l
    have HE := Lib.hid h0
    have HC := Lib.hid c0
    obtain ⟨S, hS⟩ : ∃ S, S = r.search.1 := ⟨_, rfl⟩
    rw [← hS] at HFI HV HL
    clear h0 hd ho hb1 hok hrd hS
    go_wp2_with fail
    clear c0
    go_loopw [2, 3, 4, 21] (fun vf vt vw i wr => ∃ a : Nat, a ≤ r.n ∧ i = .int .i64 a ∧ vf = .int .i64 ((nxAll S.L r.n a).1 : Nat) ∧ vt = .int .i64 ((nxAll S.L r.n a).2.1 : Nat) ∧ vw = .int .i64 (nxAll S.L r.n a).2.2 ∧ Hid (wr.cell? ⟨W.heap.size, 0, none⟩ = some (.slice bA r.n bc)) ∧ Hid (RwAt wr db r bA bc dA dc vA vc) ∧ Hid (LsAt wr db r.n S.L) ∧ Hid (Below W.heap.size W wr)) (fun _ _ _ i _ => r.n - (intOf i).toNat)
    case atStart => exact ⟨0, Nat.zero_le _, rfl, rfl, rfl, rfl, HC, HA, HL, HB1⟩
    case round =>
      clear HC HA HL HB1
      obtain ⟨a, ha, rfl, rfl, rfl, rfl, HC, HA, HL, HB⟩ := hrel
      by_cases hlt : a < r.n
      · have han : (a : Int) < (r.n : Int) := by omega
        have ea : IntKind.i64.wrap ((a : Int) + 1) = (a : Int) + 1 := IntWalk.i64_in _ (by omega)
        have HX : Hid (nxAll S.L r.n (a + 1) = nxRow S.L r.n a (nxAll S.L r.n a) (r.n - a)) := Lib.hid rfl
        obtain ⟨X, hX⟩ : ∃ X, X = nxAll S.L r.n a := ⟨_, rfl⟩
        rw [← hX] at HX
        rw [← hX]
        clear hX
        go_wp2_with fail
        go_loopw [2, 3, 4, 8] (fun vf vt vw i wr => ∃ k : Nat, a + k ≤ r.n ∧ i = .int .i64 (a + k : Nat) ∧ vf = .int .i64 ((nxRow S.L r.n a X k).1 : Nat) ∧ vt = .int .i64 ((nxRow S.L r.n a X k).2.1 : Nat) ∧ vw = .int .i64 (nxRow S.L r.n a X k).2.2 ∧ Hid (wr.cell? ⟨W.heap.size, 0, none⟩ = some (.slice bA r.n bc)) ∧ Hid (RwAt wr db r bA bc dA dc vA vc) ∧ Hid (LsAt wr db r.n S.L) ∧ Hid (Below W.heap.size W wr)) (fun _ _ _ i _ => r.n - (intOf i).toNat)
        case atStart => exact ⟨0, by omega, rfl, rfl, rfl, rfl, HC, HA, HL, HB⟩
        case round =>
          clear HC HA HL HB
          obtain ⟨k, hk, rfl, rfl, rfl, rfl, HC, HA, HL, HB⟩ := hrel
          obtain ⟨b, hb⟩ : ∃ b, b = a + k := ⟨_, rfl⟩
          rw [← hb]
          have c0 := HC.out
          by_cases hltb : b < r.n
          · have hbn : (b : Int) < (r.n : Int) := by omega
            have eb : IntKind.i64.wrap ((b : Int) + 1) = (b : Int) + 1 := IntWalk.i64_in _ (by omega)
            have HY : Hid (nxRow S.L r.n a X (k + 1) = nxStep S.L r.n a b (nxRow S.L r.n a X k)) := Lib.hid (by rw [hb]; rfl)
            obtain ⟨⟨y1, y2, y3⟩, hY⟩ : ∃ Y, Y = nxRow S.L r.n a X k := ⟨_, rfl⟩
            rw [← hY] at HY
            rw [← hY]
            dsimp only
            have HBK := Lib.hid hb
            obtain ⟨wo, rfl⟩ : ∃ wo, wo = wr := ⟨_, rfl⟩
            have hal := HA.out.lt
            clear hY hb
            go_wp2_with fail
            refine (settles_any r hn6 S HFI.out.bd a b (by omega) (by omega) (HFI.out.pos (by omega) (by omega)) db bA dA vA bc dc vc _ HA.out HL.out).mono ?_
            rintro e w3 ⟨rfl, hb3⟩
            have HC3 := Lib.hid (Kb hb3 HC.out)
            have HA3 := Lib.hid (HA.out.later hb3)
            have HL3 := Lib.hid (HL.out.same (hb3.block _ hal))
            have HB3 := Lib.hid (HB.out.trans (hb3.mono HB.out.size))
            clear c0 HC HA HL HB hb3
            unfold nxStep at HY
            obtain ⟨z, hz⟩ : ∃ z, z = settled S.L a b r.n := ⟨_, rfl⟩
            rw [← hz] at HY
            rw [← hz]
            clear hz
            by_cases hzy : z < y3
            · have HY2 : Hid (nxRow S.L r.n a X (k + 1) = (a, b, z)) := Lib.hid (by rw [HY.out, if_pos hzy])
              go_wp2_with fail
              refine ⟨?_, ?measure⟩
              case measure => simp [intOf]; omega
              exact ⟨k + 1, by have := HBK.out; omega, by have := HBK.out; rw [show a + (k + 1) = b + 1 by omega]; go_num, by rw [HY2.out], by rw [HY2.out], by rw [HY2.out], HC3, HA3, HL3, HB3⟩
            · have HY2 : Hid (nxRow S.L r.n a X (k + 1) = (y1, y2, y3)) := Lib.hid (by rw [HY.out, if_neg hzy])
              go_wp2_with fail
              refine ⟨?_, ?measure⟩
              case measure => simp [intOf]; omega
              exact ⟨k + 1, by have := HBK.out; omega, by have := HBK.out; rw [show a + (k + 1) = b + 1 by omega]; go_num, by rw [HY2.out], by rw [HY2.out], by rw [HY2.out], HC3, HA3, HL3, HB3⟩
          · have hge2 : ¬ (b : Int) < (r.n : Int) := by omega
            have hkk : Hid (k = r.n - a) := Lib.hid (by omega)
            clear hb
            go_wp2_with fail
            refine ⟨?_, ?measure⟩
            case measure => simp [intOf]; omega
            exact ⟨a + 1, by omega, by go_num, by rw [HX.out, ← hkk.out], by rw [HX.out, ← hkk.out], by rw [HX.out, ← hkk.out], HC, HA, HL, HB⟩
      · obtain rfl : a = r.n := by omega
        have hge : ¬ (r.n : Int) < (r.n : Int) := by omega
        go_wp2_with fail
        exact bodyPost_ret (v := .tuple #[.int .i64 ((nxAll S.L r.n r.n).1 : Nat), .int .i64 ((nxAll S.L r.n r.n).2.1 : Nat), .int .i64 (nxAll S.L r.n r.n).2.2, .int .i64 0]) (by simp [results, Tryz.results29, go_sem]) rfl ⟨by rw [HV.out, HE.out], HB.out⟩
  · have HB1 := Lib.hid (show Below W.heap.size W w1 from (by repeat (first | (with_reducible first | exact Below.refl _ _ | refine Below.drew ?_ | refine below_drewN ?_ _) | ((with_reducible first | refine Lc ?_ ?_ _ | refine Ls ?_ ?_ _ | refine Lv (by assumption) ?_ ?_); · first | exact Nat.le_refl _ | omega | (simp; done) | (simp; omega) | (simp at *; omega)))))
    have hne : (r.fitErr != 0) = true := by simpa using h0
    have HV : Hid (r.nextR = (0, 0, 0)) := Lib.hid (by unfold Rw.nextR; rw [if_neg h0])
    clear h0 hb1
    go_wp2_with fail
    exact bodyPost_ret (v := .tuple #[.int .i64 0, .int .i64 0, .int .i64 0, .int .i64 r.fitErr]) (by simp [results, Tryz.results29, go_sem]) rfl ⟨by rw [HV.out]; rfl, HB1.out⟩
end Go.Proofs.YtnnikeolgknfoaaGreat
