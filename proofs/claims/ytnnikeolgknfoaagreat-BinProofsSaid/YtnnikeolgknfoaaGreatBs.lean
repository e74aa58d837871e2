/- bin.Shows, bin.Contradicts. -/
import Derived.Test.YtnnikeolgknfoaaGreatBo
set_option linter.unusedSimpArgs false
set_option linter.unusedVariables false
namespace Go.Proofs.YtnnikeolgknfoaaGreat
open Go.RowKit Go.Shelf

theorem Rw.fol_bd {r : Rw} (hr : r.ok) {P : Nat → Fc} : ∀ (k : Nat) (x : Int × Int × Int), (∀ j, j < k → r.has (P j)) → r.fol P k = some x → -3100 * (k : Int) ≤ x.2.2 ∧ x.2.2 ≤ 3100 * (k : Int)
  | 0, x, _, h => by
    unfold Rw.fol at h
    injection h with h
    subst h
    simp
  | k + 1, x, hh, h => by
    unfold Rw.fol at h
    cases hk : r.fol P k with
    | none => rw [hk] at h; cases h
    | some y =>
      rw [hk] at h
      have ih := Rw.fol_bd hr k y (fun j hj => hh j (by omega)) hk
      have hb := Rw.ab_bd hr (hh k (by omega))
      by_cases e : r.from_ (P k) = (if k = 0 then r.from_ (P k) else y.2.1)
      · dsimp only at h
        rw [if_pos e] at h
        injection h with h
        subst h
        dsimp only
        omega
      · dsimp only at h
        rw [if_neg e] at h
        cases h
theorem Rw.follow_bd {r : Rw} (hr : r.ok) {P : Nat → Fc} {n : Nat} (hn : n ≤ 20) (hh : ∀ j, j < n → r.has (P j)) : -62000 ≤ (r.followR P n).2.2.1 ∧ (r.followR P n).2.2.1 ≤ 62000 := by
  unfold Rw.followR
  cases h : r.fol P n with
  | none => simp
  | some x =>
    have := Rw.fol_bd hr n x hh h
    dsimp only
    omega
theorem Rw.known_ok {r : Rw} {n : Nat} {P : Nat → Fc} (h : r.knownErr n P = 0) : n ≤ 20 ∧ ∀ j, j < n → r.has (P j) := by
  unfold Rw.knownErr at h
  by_cases h1 : 20 < n
  · rw [if_pos h1] at h; cases h
  · rw [if_neg h1] at h
    cases h2 : allN (fun k => r.knows (P k)) n with
    | true => exact ⟨by omega, fun j hj => Rw.knows_iff.1 (allN_iff.1 h2 j hj)⟩
    | false => rw [h2, if_pos rfl] at h; cases h
theorem Rw.bins_ok {r : Rw} {f t : Int} (h : r.binsErr f t = 0) : 0 ≤ f ∧ f ≤ t ∧ t < r.n := by
  unfold Rw.binsErr at h
  by_cases h4 : (inB f 0 ((r.n : Int) - 1) && inB t 0 ((r.n : Int) - 1)) = false
  · rw [if_pos h4] at h; cases h
  · rw [if_neg h4] at h
    by_cases h5 : t < f
    · rw [if_pos h5] at h; cases h
    · rw [Bool.not_eq_false, Bool.and_eq_true, inB_iff, inB_iff] at h4
      omega
def waysR (f t : Int) (most : Bool) : Int × Int := if most then (f, t + 1) else (t + 1, f)
set_option maxRecDepth 100000 in
set_option maxHeartbeats 4000000 in
theorem ways_any (f t : Int) (most : Bool) (ht : -1000000 ≤ t ∧ t ≤ 1000000) (W : World) :
    Calls Tryz.prog 106 #[.int .i64 f, .int .i64 t, .bool most] W fun e W' => e = .returned (.tuple #[.int .i64 (waysR f t most).1, .int .i64 (waysR f t most).2]) ∧ Below W.heap.size W W' := by
  have e1 : IntKind.i64.wrap (t + 1) = t + 1 := IntWalk.i64_in _ (by omega)
  cases most <;>
  · go_enter Tryz.func106, Tryz.ntmps106
    go_wp2_with fail
    go_ret2
    exact ⟨rfl, (by repeat (first | (with_reducible first | exact Below.refl _ _ | refine Below.drew ?_ | refine below_drewN ?_ _) | ((with_reducible first | refine Lc ?_ ?_ _ | refine Ls ?_ ?_ _ | refine Lv (by assumption) ?_ ?_); · first | exact Nat.le_refl _ | omega | (simp; done) | (simp; omega) | (simp at *; omega))))⟩

/-- what a walk shows, or the error -/
def Rw.showsR (r : Rw) (f t : Int) (most : Bool) (n : Nat) (P : Nat → Fc) : Int × Int :=
  if r.check ≠ 0 then (0, r.check) else if r.binsErr f t ≠ 0 then (0, r.binsErr f t) else if r.knownErr n P ≠ 0 then (0, r.knownErr n P) else
  if (r.followR P n).2.2.2 = true ∧ (r.followR P n).1 = (waysR f t most).1 ∧ (r.followR P n).2.1 = (waysR f t most).2 then (if most then (r.followR P n).2.2.1 else -(r.followR P n).2.2.1, 0) else (0, 8)

set_option maxRecDepth 100000 in
set_option maxHeartbeats 4000000 in
theorem Shows_any (r : Rw) (f t : Int) (most : Bool) (A : Option Addr) (n c : Nat) (P : Nat → Fc) (bA dA vA : Option Addr) (bc dc vc : Nat) (W : World) (hrow : RwRow W W.heap.size r bA bc dA dc vA vc) (hP : FcRow W W.heap.size A n P) (hn63 : n ≤ 1000000000) :
    Calls Tryz.prog 39 #[rwV bA r.n bc dA r.d dc vA r.m vc, .int .i64 f, .int .i64 t, .bool most, .slice A n c] W fun e W' => e = .returned (.tuple #[.int .i64 (r.showsR f t most n P).1, .int .i64 (r.showsR f t most n P).2]) ∧ Below W.heap.size W W' := by
  have H0 := Lib.hid hrow
  have HP := Lib.hid hP
  clear hrow hP
  go_enter Tryz.func39, Tryz.ntmps39
  go_wp2_with fail
  refine (opened_any r bA dA vA bc dc vc _ ((H0.out.later (by repeat (first | (with_reducible first | exact Below.refl _ _ | assumption | refine Below.drew ?_) | ((with_reducible first | refine Lc ?_ ?_ _ | refine Ls ?_ ?_ _ | refine Lv (by assumption) ?_ ?_); · first | exact Nat.le_refl _ | omega | (dsimp only; omega) | (simp only [World.size_alloc, World.size_drew, World.heap_drewN]; omega) | (simp; omega))))).up (by first | exact Nat.le_refl _ | omega | (simp; done) | (simp; omega) | (simp at *; omega)) (by first | exact Nat.le_refl _ | omega | (simp; done) | (simp; omega) | (simp at *; omega)))).mono ?_
  rintro e w1 (⟨h0, db, dA', dc', rfl, hdb, hd, ho, hb1⟩ | ⟨h0, rfl, hb1⟩)
  · have HB1 := Lib.hid (show Below W.heap.size W w1 from (by repeat (first | (with_reducible first | exact Below.refl _ _ | refine Below.drew ?_ | refine below_drewN ?_ _) | ((with_reducible first | refine Lc ?_ ?_ _ | refine Ls ?_ ?_ _ | refine Lv (by assumption) ?_ ?_); · first | exact Nat.le_refl _ | omega | (simp; done) | (simp; omega) | (simp at *; omega)))))
    have HD := Lib.hid hd.a
    have HE := Lib.hid h0
    have hok := Rw.check_ok.1 h0
    have HOK := Lib.hid hok
    have hn6 := hok.n6
    have hm10 := hok.m10
    clear h0 hd ho hb1 hok hdb
    go_wp2_with fail
    refine (bins_any r (by omega) f t db bA dA vA bc dc vc _ (HD.out.later (by repeat (first | (with_reducible first | exact Below.refl _ _ | assumption | refine Below.drew ?_) | ((with_reducible first | refine Lc ?_ ?_ _ | refine Ls ?_ ?_ _ | refine Lv (by assumption) ?_ ?_); · first | exact Nat.le_refl _ | omega | (dsimp only; omega) | (simp only [World.size_alloc, World.size_drew, World.heap_drewN]; omega) | (simp; omega))))).a).mono ?_
    rintro e w2 ⟨rfl, hb2⟩
    have HD2 := Lib.hid (HD.out.later (show Below w1.heap.size w1 w2 from (by repeat (first | (with_reducible first | exact Below.refl _ _ | assumption | refine Below.drew ?_) | ((with_reducible first | refine Lc ?_ ?_ _ | refine Ls ?_ ?_ _ | refine Lv (by assumption) ?_ ?_); · first | exact Nat.le_refl _ | omega | (dsimp only; omega) | (simp only [World.size_alloc, World.size_drew, World.heap_drewN]; omega) | (simp; omega))))))
    have HB2 := Lib.hid (HB1.out.trans ((show Below w1.heap.size w1 w2 from (by repeat (first | (with_reducible first | exact Below.refl _ _ | assumption | refine Below.drew ?_) | ((with_reducible first | refine Lc ?_ ?_ _ | refine Ls ?_ ?_ _ | refine Lv (by assumption) ?_ ?_); · first | exact Nat.le_refl _ | omega | (dsimp only; omega) | (simp only [World.size_alloc, World.size_drew, World.heap_drewN]; omega) | (simp; omega))))).mono HB1.out.size))
    clear hb2 HD HB1
    by_cases hbe : r.binsErr f t = 0
    · have HBE := Lib.hid hbe
      have hbo := Rw.bins_ok hbe
      rw [hbe]
      clear hbe
      go_wp2_with fail
      refine (known_any r (by omega) (by omega) A n c P db bA dA vA bc dc vc _ (HD2.out.later (by repeat (first | (with_reducible first | exact Below.refl _ _ | assumption | refine Below.drew ?_) | ((with_reducible first | refine Lc ?_ ?_ _ | refine Ls ?_ ?_ _ | refine Lv (by assumption) ?_ ?_); · first | exact Nat.le_refl _ | omega | (dsimp only; omega) | (simp only [World.size_alloc, World.size_drew, World.heap_drewN]; omega) | (simp; omega))))).a ((HP.out.below (HB2.out.trans ((show Below w2.heap.size w2 _ from (by repeat (first | (with_reducible first | exact Below.refl _ _ | assumption | refine Below.drew ?_) | ((with_reducible first | refine Lc ?_ ?_ _ | refine Ls ?_ ?_ _ | refine Lv (by assumption) ?_ ?_); · first | exact Nat.le_refl _ | omega | (dsimp only; omega) | (simp only [World.size_alloc, World.size_drew, World.heap_drewN]; omega) | (simp; omega))))).mono HB2.out.size))).mono (by have := HB2.out.size; first | exact Nat.le_refl _ | omega | (simp; done) | (simp; omega) | (simp at *; omega))) hn63).mono ?_
      rintro e w3 ⟨rfl, hb3⟩
      have HD3 := Lib.hid (HD2.out.later (show Below w2.heap.size w2 w3 from (by repeat (first | (with_reducible first | exact Below.refl _ _ | assumption | refine Below.drew ?_) | ((with_reducible first | refine Lc ?_ ?_ _ | refine Ls ?_ ?_ _ | refine Lv (by assumption) ?_ ?_); · first | exact Nat.le_refl _ | omega | (dsimp only; omega) | (simp only [World.size_alloc, World.size_drew, World.heap_drewN]; omega) | (simp; omega))))))
      have HB3 := Lib.hid (HB2.out.trans ((show Below w2.heap.size w2 w3 from (by repeat (first | (with_reducible first | exact Below.refl _ _ | assumption | refine Below.drew ?_) | ((with_reducible first | refine Lc ?_ ?_ _ | refine Ls ?_ ?_ _ | refine Lv (by assumption) ?_ ?_); · first | exact Nat.le_refl _ | omega | (dsimp only; omega) | (simp only [World.size_alloc, World.size_drew, World.heap_drewN]; omega) | (simp; omega))))).mono HB2.out.size))
      clear hb3 HD2 HB2
      by_cases hke : r.knownErr n P = 0
      · have HKE := Lib.hid hke
        obtain ⟨hn20, hhas⟩ := Rw.known_ok hke
        have HH := Lib.hid hhas
        have hbd := Rw.follow_bd HOK.out hn20 hhas
        rw [hke]
        clear hke hhas
        go_wp2_with fail
        refine (follow_any r HOK.out A n c P _ db bA dA vA bc dc vc _ (HD3.out.later (by repeat (first | (with_reducible first | exact Below.refl _ _ | assumption | refine Below.drew ?_) | ((with_reducible first | refine Lc ?_ ?_ _ | refine Ls ?_ ?_ _ | refine Lv (by assumption) ?_ ?_); · first | exact Nat.le_refl _ | omega | (dsimp only; omega) | (simp only [World.size_alloc, World.size_drew, World.heap_drewN]; omega) | (simp; omega))))) ((HP.out.below (HB3.out.trans ((show Below w3.heap.size w3 _ from (by repeat (first | (with_reducible first | exact Below.refl _ _ | assumption | refine Below.drew ?_) | ((with_reducible first | refine Lc ?_ ?_ _ | refine Ls ?_ ?_ _ | refine Lv (by assumption) ?_ ?_); · first | exact Nat.le_refl _ | omega | (dsimp only; omega) | (simp only [World.size_alloc, World.size_drew, World.heap_drewN]; omega) | (simp; omega))))).mono HB3.out.size))).mono (by have := HB3.out.size; first | exact Nat.le_refl _ | omega | (simp; done) | (simp; omega) | (simp at *; omega))) hn20 HH.out).mono ?_
        rintro e w4 ⟨rfl, hb4⟩
        have HB4 := Lib.hid (HB3.out.trans ((show Below w3.heap.size w3 w4 from (by repeat (first | (with_reducible first | exact Below.refl _ _ | assumption | refine Below.drew ?_) | ((with_reducible first | refine Lc ?_ ?_ _ | refine Ls ?_ ?_ _ | refine Lv (by assumption) ?_ ?_); · first | exact Nat.le_refl _ | omega | (dsimp only; omega) | (simp only [World.size_alloc, World.size_drew, World.heap_drewN]; omega) | (simp; omega))))).mono HB3.out.size))
        have HV0 : Hid (r.showsR f t most n P = if (r.followR P n).2.2.2 = true ∧ (r.followR P n).1 = (waysR f t most).1 ∧ (r.followR P n).2.1 = (waysR f t most).2 then (if most then (r.followR P n).2.2.1 else -(r.followR P n).2.2.1, 0) else (0, 8)) := Lib.hid (by
          unfold Rw.showsR
          rw [if_neg (by simpa using HE.out), if_neg (by simpa using HBE.out), if_neg (by simpa using HKE.out)])
        obtain ⟨⟨a, b, s, is⟩, hx⟩ : ∃ x, x = r.followR P n := ⟨_, rfl⟩
        rw [← hx] at hbd HV0 ⊢
        dsimp only at hbd HV0 ⊢
        have es : IntKind.i64.wrap (-s) = -s := IntWalk.i64_in _ (by omega)
        clear hb4 hx HD3 HB3
        go_wp2_with fail
        refine (ways_any f t most (by omega) _).mono ?_
        rintro e w5 ⟨rfl, hb5⟩
        have HB5 := Lib.hid (HB4.out.trans ((show Below w4.heap.size w4 w5 from (by repeat (first | (with_reducible first | exact Below.refl _ _ | assumption | refine Below.drew ?_) | ((with_reducible first | refine Lc ?_ ?_ _ | refine Ls ?_ ?_ _ | refine Lv (by assumption) ?_ ?_); · first | exact Nat.le_refl _ | omega | (dsimp only; omega) | (simp only [World.size_alloc, World.size_drew, World.heap_drewN]; omega) | (simp; omega))))).mono HB4.out.size))
        obtain ⟨⟨x, y⟩, hy⟩ : ∃ x, x = waysR f t most := ⟨_, rfl⟩
        rw [← hy] at HV0 ⊢
        dsimp only at HV0 ⊢
        clear hb5 hy HB4
        cases is with
        | false =>
          have HV : Hid (r.showsR f t most n P = (0, 8)) := Lib.hid (by rw [HV0.out, if_neg (by simp)])
          go_wp2_with fail
          go_ret2
          exact ⟨by rw [HV.out]; rfl, HB5.out⟩
        | true =>
          by_cases h1 : a = x
          · have g1 : (a != x) = false := by simpa using h1
            by_cases h2 : b = y
            · have g2 : (b != y) = false := by simpa using h2
              cases most with
              | true =>
                have HV : Hid (r.showsR f t true n P = (s, 0)) := Lib.hid (by rw [HV0.out, if_pos ⟨rfl, h1, h2⟩, if_pos rfl])
                clear h1 h2
                go_wp2_with fail
                go_ret2
                exact ⟨by rw [HV.out]; rfl, HB5.out⟩
              | false =>
                have HV : Hid (r.showsR f t false n P = (-s, 0)) := Lib.hid (by rw [HV0.out, if_pos ⟨rfl, h1, h2⟩]; rfl)
                clear h1 h2
                go_wp2_with fail
                go_ret2
                exact ⟨by rw [HV.out]; rfl, HB5.out⟩
            · have g2 : (b != y) = true := by simpa using h2
              have HV : Hid (r.showsR f t most n P = (0, 8)) := Lib.hid (by rw [HV0.out, if_neg (fun h => h2 h.2.2)])
              clear h1 h2
              go_wp2_with fail
              go_ret2
              exact ⟨by rw [HV.out]; rfl, HB5.out⟩
          · have g1 : (a != x) = true := by simpa using h1
            have HV : Hid (r.showsR f t most n P = (0, 8)) := Lib.hid (by rw [HV0.out, if_neg (fun h => h1 h.2.1)])
            clear h1
            go_wp2_with fail
            go_ret2
            exact ⟨by rw [HV.out]; rfl, HB5.out⟩
      · have hne : (r.knownErr n P != 0) = true := by simpa using hke
        have HV : Hid (r.showsR f t most n P = (0, r.knownErr n P)) := Lib.hid (by
          unfold Rw.showsR
          rw [if_neg (by simpa using HE.out), if_neg (by simpa using HBE.out), if_pos hke])
        clear hke
        go_wp2_with fail
        go_ret2
        exact ⟨by rw [HV.out]; rfl, HB3.out⟩
    · have hne : (r.binsErr f t != 0) = true := by simpa using hbe
      have HV : Hid (r.showsR f t most n P = (0, r.binsErr f t)) := Lib.hid (by
        unfold Rw.showsR
        rw [if_neg (by simpa using HE.out), if_pos hbe])
      clear hbe
      go_wp2_with fail
      go_ret2
      exact ⟨by rw [HV.out]; rfl, HB2.out⟩
  · have HB1 := Lib.hid (show Below W.heap.size W w1 from (by repeat (first | (with_reducible first | exact Below.refl _ _ | refine Below.drew ?_ | refine below_drewN ?_ _) | ((with_reducible first | refine Lc ?_ ?_ _ | refine Ls ?_ ?_ _ | refine Lv (by assumption) ?_ ?_); · first | exact Nat.le_refl _ | omega | (simp; done) | (simp; omega) | (simp at *; omega)))))
    have hne : (r.check != 0) = true := by simpa using h0
    have HV : Hid (r.showsR f t most n P = (0, r.check)) := Lib.hid (by unfold Rw.showsR; rw [if_pos h0])
    clear h0 hb1
    go_wp2_with fail
    go_ret2
    exact ⟨by rw [HV.out]; rfl, HB1.out⟩

/-- whether a walk contradicts, or the error -/
def Rw.contraR (r : Rw) (n : Nat) (P : Nat → Fc) : Bool × Int :=
  if r.check ≠ 0 then (false, r.check) else if r.knownErr n P ≠ 0 then (false, r.knownErr n P) else
  ((r.followR P n).2.2.2 && decide ((r.followR P n).1 = (r.followR P n).2.1) && decide ((r.followR P n).2.2.1 < 0), 0)

set_option maxRecDepth 100000 in
set_option maxHeartbeats 4000000 in
theorem Contradicts_any (r : Rw) (A : Option Addr) (n c : Nat) (P : Nat → Fc) (bA dA vA : Option Addr) (bc dc vc : Nat) (W : World) (hrow : RwRow W W.heap.size r bA bc dA dc vA vc) (hP : FcRow W W.heap.size A n P) (hn63 : n ≤ 1000000000) :
    Calls Tryz.prog 43 #[rwV bA r.n bc dA r.d dc vA r.m vc, .slice A n c] W fun e W' => e = .returned (.tuple #[.bool (r.contraR n P).1, .int .i64 (r.contraR n P).2]) ∧ Below W.heap.size W W' := by
  have H0 := Lib.hid hrow
  have HP := Lib.hid hP
  clear hrow hP
  go_enter Tryz.func43, Tryz.ntmps43
  go_wp2_with fail
  refine (opened_any r bA dA vA bc dc vc _ ((H0.out.later (by repeat (first | (with_reducible first | exact Below.refl _ _ | assumption | refine Below.drew ?_) | ((with_reducible first | refine Lc ?_ ?_ _ | refine Ls ?_ ?_ _ | refine Lv (by assumption) ?_ ?_); · first | exact Nat.le_refl _ | omega | (dsimp only; omega) | (simp only [World.size_alloc, World.size_drew, World.heap_drewN]; omega) | (simp; omega))))).up (by first | exact Nat.le_refl _ | omega | (simp; done) | (simp; omega) | (simp at *; omega)) (by first | exact Nat.le_refl _ | omega | (simp; done) | (simp; omega) | (simp at *; omega)))).mono ?_
  rintro e w1 (⟨h0, db, dA', dc', rfl, hdb, hd, ho, hb1⟩ | ⟨h0, rfl, hb1⟩)
  · have HB1 := Lib.hid (show Below W.heap.size W w1 from (by repeat (first | (with_reducible first | exact Below.refl _ _ | refine Below.drew ?_ | refine below_drewN ?_ _) | ((with_reducible first | refine Lc ?_ ?_ _ | refine Ls ?_ ?_ _ | refine Lv (by assumption) ?_ ?_); · first | exact Nat.le_refl _ | omega | (simp; done) | (simp; omega) | (simp at *; omega)))))
    have HD := Lib.hid hd.a
    have HE := Lib.hid h0
    have hok := Rw.check_ok.1 h0
    have HOK := Lib.hid hok
    have hn6 := hok.n6
    have hm10 := hok.m10
    clear h0 hd ho hb1 hok hdb
    go_wp2_with fail
    refine (known_any r (by omega) (by omega) A n c P db bA dA vA bc dc vc _ (HD.out.later (by repeat (first | (with_reducible first | exact Below.refl _ _ | assumption | refine Below.drew ?_) | ((with_reducible first | refine Lc ?_ ?_ _ | refine Ls ?_ ?_ _ | refine Lv (by assumption) ?_ ?_); · first | exact Nat.le_refl _ | omega | (dsimp only; omega) | (simp only [World.size_alloc, World.size_drew, World.heap_drewN]; omega) | (simp; omega))))).a ((HP.out.below (HB1.out.trans ((show Below w1.heap.size w1 _ from (by repeat (first | (with_reducible first | exact Below.refl _ _ | assumption | refine Below.drew ?_) | ((with_reducible first | refine Lc ?_ ?_ _ | refine Ls ?_ ?_ _ | refine Lv (by assumption) ?_ ?_); · first | exact Nat.le_refl _ | omega | (dsimp only; omega) | (simp only [World.size_alloc, World.size_drew, World.heap_drewN]; omega) | (simp; omega))))).mono HB1.out.size))).mono (by have := HB1.out.size; first | exact Nat.le_refl _ | omega | (simp; done) | (simp; omega) | (simp at *; omega))) hn63).mono ?_
    rintro e w3 ⟨rfl, hb3⟩
    have HD3 := Lib.hid (HD.out.later (show Below w1.heap.size w1 w3 from (by repeat (first | (with_reducible first | exact Below.refl _ _ | assumption | refine Below.drew ?_) | ((with_reducible first | refine Lc ?_ ?_ _ | refine Ls ?_ ?_ _ | refine Lv (by assumption) ?_ ?_); · first | exact Nat.le_refl _ | omega | (dsimp only; omega) | (simp only [World.size_alloc, World.size_drew, World.heap_drewN]; omega) | (simp; omega))))))
    have HB3 := Lib.hid (HB1.out.trans ((show Below w1.heap.size w1 w3 from (by repeat (first | (with_reducible first | exact Below.refl _ _ | assumption | refine Below.drew ?_) | ((with_reducible first | refine Lc ?_ ?_ _ | refine Ls ?_ ?_ _ | refine Lv (by assumption) ?_ ?_); · first | exact Nat.le_refl _ | omega | (dsimp only; omega) | (simp only [World.size_alloc, World.size_drew, World.heap_drewN]; omega) | (simp; omega))))).mono HB1.out.size))
    clear hb3 HD HB1
    by_cases hke : r.knownErr n P = 0
    · have HKE := Lib.hid hke
      obtain ⟨hn20, hhas⟩ := Rw.known_ok hke
      have HH := Lib.hid hhas
      rw [hke]
      clear hke hhas
      go_wp2_with fail
      refine (follow_any r HOK.out A n c P _ db bA dA vA bc dc vc _ (HD3.out.later (by repeat (first | (with_reducible first | exact Below.refl _ _ | assumption | refine Below.drew ?_) | ((with_reducible first | refine Lc ?_ ?_ _ | refine Ls ?_ ?_ _ | refine Lv (by assumption) ?_ ?_); · first | exact Nat.le_refl _ | omega | (dsimp only; omega) | (simp only [World.size_alloc, World.size_drew, World.heap_drewN]; omega) | (simp; omega))))) ((HP.out.below (HB3.out.trans ((show Below w3.heap.size w3 _ from (by repeat (first | (with_reducible first | exact Below.refl _ _ | assumption | refine Below.drew ?_) | ((with_reducible first | refine Lc ?_ ?_ _ | refine Ls ?_ ?_ _ | refine Lv (by assumption) ?_ ?_); · first | exact Nat.le_refl _ | omega | (dsimp only; omega) | (simp only [World.size_alloc, World.size_drew, World.heap_drewN]; omega) | (simp; omega))))).mono HB3.out.size))).mono (by have := HB3.out.size; first | exact Nat.le_refl _ | omega | (simp; done) | (simp; omega) | (simp at *; omega))) hn20 HH.out).mono ?_
      rintro e w4 ⟨rfl, hb4⟩
      have HB4 := Lib.hid (HB3.out.trans ((show Below w3.heap.size w3 w4 from (by repeat (first | (with_reducible first | exact Below.refl _ _ | assumption | refine Below.drew ?_) | ((with_reducible first | refine Lc ?_ ?_ _ | refine Ls ?_ ?_ _ | refine Lv (by assumption) ?_ ?_); · first | exact Nat.le_refl _ | omega | (dsimp only; omega) | (simp only [World.size_alloc, World.size_drew, World.heap_drewN]; omega) | (simp; omega))))).mono HB3.out.size))
      have HV0 : Hid (r.contraR n P = ((r.followR P n).2.2.2 && decide ((r.followR P n).1 = (r.followR P n).2.1) && decide ((r.followR P n).2.2.1 < 0), 0)) := Lib.hid (by
        unfold Rw.contraR
        rw [if_neg (by simpa using HE.out), if_neg (by simpa using HKE.out)])
      obtain ⟨⟨a, b, s, is⟩, hx⟩ : ∃ x, x = r.followR P n := ⟨_, rfl⟩
      rw [← hx] at HV0 ⊢
      dsimp only at HV0 ⊢
      clear hb4 hx HD3 HB3
      cases is with
      | false =>
        have HV : Hid (r.contraR n P = (false, 0)) := Lib.hid (by rw [HV0.out]; rfl)
        go_wp2_with fail
        go_ret2
        exact ⟨by rw [HV.out]; rfl, HB4.out⟩
      | true =>
        by_cases h1 : a = b
        · have g1 : (a == b) = true := by simpa using h1
          by_cases h2 : s < 0
          · have HV : Hid (r.contraR n P = (true, 0)) := Lib.hid (by rw [HV0.out]; simp [h1, h2])
            clear h1
            go_wp2_with fail
            go_ret2
            exact ⟨by rw [HV.out]; rfl, HB4.out⟩
          · have HV : Hid (r.contraR n P = (false, 0)) := Lib.hid (by rw [HV0.out]; simp [h2])
            clear h1
            go_wp2_with fail
            go_ret2
            exact ⟨by rw [HV.out]; rfl, HB4.out⟩
        · have g1 : (a == b) = false := by simpa using h1
          have HV : Hid (r.contraR n P = (false, 0)) := Lib.hid (by rw [HV0.out]; simp [h1])
          clear h1
          go_wp2_with fail
          go_ret2
          exact ⟨by rw [HV.out]; rfl, HB4.out⟩
    · have hne : (r.knownErr n P != 0) = true := by simpa using hke
      have HV : Hid (r.contraR n P = (false, r.knownErr n P)) := Lib.hid (by
        unfold Rw.contraR
        rw [if_neg (by simpa using HE.out), if_pos hke])
      clear hke
      go_wp2_with fail
      go_ret2
      exact ⟨by rw [HV.out]; rfl, HB3.out⟩
  · have HB1 := Lib.hid (show Below W.heap.size W w1 from (by repeat (first | (with_reducible first | exact Below.refl _ _ | refine Below.drew ?_ | refine below_drewN ?_ _) | ((with_reducible first | refine Lc ?_ ?_ _ | refine Ls ?_ ?_ _ | refine Lv (by assumption) ?_ ?_); · first | exact Nat.le_refl _ | omega | (simp; done) | (simp; omega) | (simp at *; omega)))))
    have hne : (r.check != 0) = true := by simpa using h0
    have HV : Hid (r.contraR n P = (false, r.check)) := Lib.hid (by unfold Rw.contraR; rw [if_pos h0])
    clear h0 hb1
    go_wp2_with fail
    go_ret2
    exact ⟨by rw [HV.out]; rfl, HB1.out⟩
end Go.Proofs.YtnnikeolgknfoaaGreat
