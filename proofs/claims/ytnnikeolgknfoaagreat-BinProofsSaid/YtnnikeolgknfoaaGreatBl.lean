/- bin.opened with its errors; fitting, bins, asked, desk.span. -/
import Derived.Test.YtnnikeolgknfoaaGreatBj
set_option linter.unusedSimpArgs false
set_option linter.unusedVariables false
namespace Go.Proofs.YtnnikeolgknfoaaGreat
open Go.RowKit Go.Shelf

theorem DkAt.re {w : World} {B B' db : Nat} {r : Rw} {S : Sk} {bA : Option Addr} {bc : Nat} {dA : Option Addr} {dc : Nat} {vA : Option Addr} {vc : Nat} {v : Value} (h : DkAt w B db r S bA bc dA dc vA vc v) (hr : RwRow w B' r bA bc dA dc vA vc) : DkAt w B' db r S bA bc dA dc vA vc v := ⟨⟨h.a.a, hr⟩, h.l, h.f, h.rd, h.fz⟩
/-- a desk, or an error -/
def DeskPost (r : Rw) (er : Int) (bA : Option Addr) (bc : Nat) (dA : Option Addr) (dc : Nat) (vA : Option Addr) (vc : Nat) (W : World) (e : Ending) (W' : World) : Prop :=
  (er = 0 ∧ OpenedYes r bA bc dA dc vA vc W e W') ∨ (er ≠ 0 ∧ e = Ending.returned (.tuple #[.pointer none, .int .i64 er]) ∧ Below W.heap.size W W')

set_option maxRecDepth 100000 in
set_option maxHeartbeats 4000000 in
theorem opened_any (r : Rw) (bA dA vA : Option Addr) (bc dc vc : Nat) (W : World) (hrow : RwRow W W.heap.size r bA bc dA dc vA vc) :
    Calls Tryz.prog 80 #[rwV bA r.n bc dA r.d dc vA r.m vc] W (DeskPost r r.check bA bc dA dc vA vc W) := by
  by_cases hc : r.check = 0
  · exact (opened_yes r (Rw.check_ok.1 hc) bA dA vA bc dc vc W hrow).mono (fun e W' h => .inl ⟨hc, h⟩)
  · have H0 := Lib.hid hrow
    have HC := Lib.hid hc
    have hne : (r.check != 0) = true := by simpa using hc
    clear hrow hc
    refine calls_of_wp_marks Tryz.func80 rfl ?_; simp only [Tryz.ntmps80, List.size_toArray, List.length_cons, List.length_nil, Nat.reduceAdd, Nat.reduceSub, Array.replicate_succ, Array.replicate_zero, List.push_toArray, List.append_toArray, List.nil_append, List.cons_append]
    go_wp2_with fail
    go_step3
    go_wp2_with fail
    refine (check_any r bA dA vA bc dc vc _ ((H0.out.later (by repeat (first | (with_reducible first | exact Below.refl _ _ | assumption | refine Below.drew ?_) | ((with_reducible first | refine Lc ?_ ?_ _ | refine Ls ?_ ?_ _ | refine Lv (by assumption) ?_ ?_); · first | exact Nat.le_refl _ | omega | (dsimp only; omega) | (simp only [World.size_alloc, World.size_drew, World.heap_drewN]; omega) | (simp; omega))))).up (by simp) (by simp))).mono ?_
    rintro e w1 ⟨rfl, hb1⟩
    have HB1 := Lib.hid (show Below W.heap.size W w1 from (by repeat (first | (with_reducible first | exact Below.refl _ _ | refine Below.drew ?_ | refine below_drewN ?_ _) | ((with_reducible first | refine Lc ?_ ?_ _ | refine Ls ?_ ?_ _ | refine Lv (by assumption) ?_ ?_); · first | exact Nat.le_refl _ | omega | (simp; done) | (simp; omega) | (simp at *; omega)))))
    clear hb1
    go_wp2_with fail
    refine ⟨.tuple #[.pointer none, .int .i64 r.check], ?_, ?_⟩
    · simp [results, Tryz.results80, go_sem]
    exact .inr ⟨HC.out, rfl, HB1.out⟩
/-- the error of a row that may not clash -/
def errClash : Int := 7
def Rw.fitErr (r : Rw) : Int := if r.check ≠ 0 then r.check else if r.round.length = 0 then 0 else 7
set_option maxRecDepth 100000 in
set_option maxHeartbeats 4000000 in
theorem fitting_any (r : Rw) (bA dA vA : Option Addr) (bc dc vc : Nat) (W : World) (hrow : RwRow W W.heap.size r bA bc dA dc vA vc) :
    Calls Tryz.prog 97 #[rwV bA r.n bc dA r.d dc vA r.m vc] W (DeskPost r r.fitErr bA bc dA dc vA vc W) := by
  have H0 := Lib.hid hrow
  clear hrow
  go_enter Tryz.func97, Tryz.ntmps97
  go_wp2_with fail
  refine (opened_any r bA dA vA bc dc vc _ ((H0.out.later (by repeat (first | (with_reducible first | exact Below.refl _ _ | assumption | refine Below.drew ?_) | ((with_reducible first | refine Lc ?_ ?_ _ | refine Ls ?_ ?_ _ | refine Lv (by assumption) ?_ ?_); · first | exact Nat.le_refl _ | omega | (dsimp only; omega) | (simp only [World.size_alloc, World.size_drew, World.heap_drewN]; omega) | (simp; omega))))).up (by simp) (by simp))).mono ?_
  rintro e w1 (⟨h0, db, A, c, rfl, hdb, hd, ho, hb1⟩ | ⟨h0, rfl, hb1⟩)
  · have HB1 := Lib.hid (show Below W.heap.size W w1 from (by repeat (first | (with_reducible first | exact Below.refl _ _ | refine Below.drew ?_ | refine below_drewN ?_ _) | ((with_reducible first | refine Lc ?_ ?_ _ | refine Ls ?_ ?_ _ | refine Lv (by assumption) ?_ ?_); · first | exact Nat.le_refl _ | omega | (simp; done) | (simp; omega) | (simp at *; omega)))))
    have hr1 := hd.rd
    have HD := Lib.hid hd
    have HO := Lib.hid ho
    have HE := Lib.hid h0
    simp only [World.size_alloc, World.size_drew] at hdb
    by_cases hz : r.round.length = 0
    · have HF : Hid (r.fitErr = 0) := Lib.hid (by unfold Rw.fitErr; rw [if_neg (by simpa using h0), if_pos hz])
      have hno : ¬ (0 : Int) < (r.round.length : Int) := by omega
      clear h0 hd ho hb1
      go_wp2_with fail
      go_ret2
      exact .inl ⟨HF.out, db, A, c, rfl, by omega, HD.out.re (H0.out.later HB1.out), owns_low (by simp) HO.out, HB1.out⟩
    · have HF : Hid (r.fitErr = 7) := Lib.hid (by unfold Rw.fitErr; rw [if_neg (by simpa using h0), if_neg hz])
      have hyes : (0 : Int) < (r.round.length : Int) := by omega
      clear h0 hd ho hb1
      go_wp2_with fail
      go_ret2
      exact .inr ⟨by rw [HF.out]; decide, by rw [HF.out]; rfl, HB1.out⟩
  · have HB1 := Lib.hid (show Below W.heap.size W w1 from (by repeat (first | (with_reducible first | exact Below.refl _ _ | refine Below.drew ?_ | refine below_drewN ?_ _) | ((with_reducible first | refine Lc ?_ ?_ _ | refine Ls ?_ ?_ _ | refine Lv (by assumption) ?_ ?_); · first | exact Nat.le_refl _ | omega | (simp; done) | (simp; omega) | (simp at *; omega)))))
    have HE := Lib.hid h0
    have HF : Hid (r.fitErr = r.check) := Lib.hid (by unfold Rw.fitErr; rw [if_pos h0])
    have hne : (r.check != 0) = true := by simpa using h0
    clear h0 hb1
    go_wp2_with fail
    go_ret2
    exact .inr ⟨by rw [HF.out]; exact HE.out, by rw [HF.out]; rfl, HB1.out⟩

/-- the error of bins from and to -/
def Rw.binsErr (r : Rw) (f t : Int) : Int := if (inB f 0 ((r.n : Int) - 1) && inB t 0 ((r.n : Int) - 1)) = false then 2 else if t < f then 6 else 0
set_option maxRecDepth 100000 in
set_option maxHeartbeats 4000000 in
theorem bins_any (r : Rw) (hn : r.n ≤ 1000) (f t : Int) (db : Nat) (bA dA vA : Option Addr) (bc dc vc : Nat) (W : World) (hd : RwAt W db r bA bc dA dc vA vc) :
    Calls Tryz.prog 81 #[.pointer (some ⟨db, 0, none⟩), .int .i64 f, .int .i64 t] W fun e W' => e = .returned (.int .i64 (r.binsErr f t)) ∧ Below W.heap.size W W' := by
  have c0 := hd.c0
  have e1 : IntKind.i64.wrap ((r.n : Int) - 1) = (r.n : Int) - 1 := IntWalk.i64_in _ (by omega)
  clear hd
  cases h1 : inB f 0 ((r.n : Int) - 1) with
  | false =>
    have HF : Hid (r.binsErr f t = 2) := Lib.hid (by unfold Rw.binsErr; rw [h1]; simp)
    have H1 := Lib.hid h1
    clear h1
    go_enter Tryz.func81, Tryz.ntmps81
    go_wp2_with fail
    refine (in_any _ _ _ _).mono ?_
    rintro e w1 ⟨rfl, rfl⟩
    rw [H1.out]
    go_wp2_with fail
    go_ret
    exact ⟨by rw [HF.out]; rfl, (by repeat (first | (with_reducible first | exact Below.refl _ _ | refine Below.drew ?_ | refine below_drewN ?_ _) | ((with_reducible first | refine Lc ?_ ?_ _ | refine Ls ?_ ?_ _ | refine Lv (by assumption) ?_ ?_); · first | exact Nat.le_refl _ | omega | (simp; done) | (simp; omega) | (simp at *; omega))))⟩
  | true =>
    cases h2 : inB t 0 ((r.n : Int) - 1) with
    | false =>
      have HF : Hid (r.binsErr f t = 2) := Lib.hid (by unfold Rw.binsErr; rw [h1, h2]; simp)
      have H1 := Lib.hid h1
      have H2 := Lib.hid h2
      clear h1 h2
      go_enter Tryz.func81, Tryz.ntmps81
      go_wp2_with fail
      refine (in_any _ _ _ _).mono ?_
      rintro e w1 ⟨rfl, rfl⟩
      rw [H1.out]
      go_wp2_with fail
      refine (in_any _ _ _ _).mono ?_
      rintro e w1 ⟨rfl, rfl⟩
      rw [H2.out]
      go_wp2_with fail
      go_ret
      exact ⟨by rw [HF.out]; rfl, (by repeat (first | (with_reducible first | exact Below.refl _ _ | refine Below.drew ?_ | refine below_drewN ?_ _) | ((with_reducible first | refine Lc ?_ ?_ _ | refine Ls ?_ ?_ _ | refine Lv (by assumption) ?_ ?_); · first | exact Nat.le_refl _ | omega | (simp; done) | (simp; omega) | (simp at *; omega))))⟩
    | true =>
      have H1 := Lib.hid h1
      have H2 := Lib.hid h2
      by_cases h3 : t < f
      · have HF : Hid (r.binsErr f t = 6) := Lib.hid (by unfold Rw.binsErr; rw [h1, h2, if_neg (by simp), if_pos h3])
        clear h1 h2
        go_enter Tryz.func81, Tryz.ntmps81
        go_wp2_with fail
        refine (in_any _ _ _ _).mono ?_
        rintro e w1 ⟨rfl, rfl⟩
        rw [H1.out]
        go_wp2_with fail
        refine (in_any _ _ _ _).mono ?_
        rintro e w1 ⟨rfl, rfl⟩
        rw [H2.out]
        go_wp2_with fail
        go_ret
        exact ⟨by rw [HF.out]; rfl, (by repeat (first | (with_reducible first | exact Below.refl _ _ | refine Below.drew ?_ | refine below_drewN ?_ _) | ((with_reducible first | refine Lc ?_ ?_ _ | refine Ls ?_ ?_ _ | refine Lv (by assumption) ?_ ?_); · first | exact Nat.le_refl _ | omega | (simp; done) | (simp; omega) | (simp at *; omega))))⟩
      · have HF : Hid (r.binsErr f t = 0) := Lib.hid (by unfold Rw.binsErr; rw [h1, h2, if_neg (by simp), if_neg h3])
        clear h1 h2
        go_enter Tryz.func81, Tryz.ntmps81
        go_wp2_with fail
        refine (in_any _ _ _ _).mono ?_
        rintro e w1 ⟨rfl, rfl⟩
        rw [H1.out]
        go_wp2_with fail
        refine (in_any _ _ _ _).mono ?_
        rintro e w1 ⟨rfl, rfl⟩
        rw [H2.out]
        go_wp2_with fail
        go_ret
        exact ⟨by rw [HF.out]; rfl, (by repeat (first | (with_reducible first | exact Below.refl _ _ | refine Below.drew ?_ | refine below_drewN ?_ _) | ((with_reducible first | refine Lc ?_ ?_ _ | refine Ls ?_ ?_ _ | refine Lv (by assumption) ?_ ?_); · first | exact Nat.le_refl _ | omega | (simp; done) | (simp; omega) | (simp at *; omega))))⟩

/-- the error of what is asked for -/
def Rw.askErr (r : Rw) (f t : Int) : Int := if r.check ≠ 0 then r.check else if r.binsErr f t ≠ 0 then r.binsErr f t else if r.round.length = 0 then 0 else 7
set_option maxRecDepth 100000 in
set_option maxHeartbeats 4000000 in
theorem asked_any (r : Rw) (f t : Int) (bA dA vA : Option Addr) (bc dc vc : Nat) (W : World) (hrow : RwRow W W.heap.size r bA bc dA dc vA vc) :
    Calls Tryz.prog 94 #[rwV bA r.n bc dA r.d dc vA r.m vc, .int .i64 f, .int .i64 t] W (DeskPost r (r.askErr f t) bA bc dA dc vA vc W) := by
  have H0 := Lib.hid hrow
  clear hrow
  go_enter Tryz.func94, Tryz.ntmps94
  go_wp2_with fail
  refine (opened_any r bA dA vA bc dc vc _ ((H0.out.later (by repeat (first | (with_reducible first | exact Below.refl _ _ | assumption | refine Below.drew ?_) | ((with_reducible first | refine Lc ?_ ?_ _ | refine Ls ?_ ?_ _ | refine Lv (by assumption) ?_ ?_); · first | exact Nat.le_refl _ | omega | (dsimp only; omega) | (simp only [World.size_alloc, World.size_drew, World.heap_drewN]; omega) | (simp; omega))))).up (by simp) (by simp))).mono ?_
  rintro e w1 (⟨h0, db, A, c, rfl, hdb, hd, ho, hb1⟩ | ⟨h0, rfl, hb1⟩)
  · have HB1 := Lib.hid (show Below W.heap.size W w1 from (by repeat (first | (with_reducible first | exact Below.refl _ _ | refine Below.drew ?_ | refine below_drewN ?_ _) | ((with_reducible first | refine Lc ?_ ?_ _ | refine Ls ?_ ?_ _ | refine Lv (by assumption) ?_ ?_); · first | exact Nat.le_refl _ | omega | (simp; done) | (simp; omega) | (simp at *; omega)))))
    have HD := Lib.hid hd
    have HO := Lib.hid ho
    have HE := Lib.hid h0
    have hn6 := (Rw.check_ok.1 h0).n6
    simp only [World.size_alloc, World.size_drew] at hdb
    clear h0 hd ho hb1
    go_wp2_with fail
    refine (bins_any r (by omega) f t db bA dA vA bc dc vc _ (HD.out.later (by repeat (first | (with_reducible first | exact Below.refl _ _ | assumption | refine Below.drew ?_) | ((with_reducible first | refine Lc ?_ ?_ _ | refine Ls ?_ ?_ _ | refine Lv (by assumption) ?_ ?_); · first | exact Nat.le_refl _ | omega | (dsimp only; omega) | (simp only [World.size_alloc, World.size_drew, World.heap_drewN]; omega) | (simp; omega))))).a.a).mono ?_
    rintro e w2 ⟨rfl, hb2⟩
    have HB2 := Lib.hid (HB1.out.trans ((show Below w1.heap.size w1 w2 from (by repeat (first | (with_reducible first | exact Below.refl _ _ | assumption | refine Below.drew ?_) | ((with_reducible first | refine Lc ?_ ?_ _ | refine Ls ?_ ?_ _ | refine Lv (by assumption) ?_ ?_); · first | exact Nat.le_refl _ | omega | (dsimp only; omega) | (simp only [World.size_alloc, World.size_drew, World.heap_drewN]; omega) | (simp; omega))))).mono HB1.out.size))
    have HD2 := Lib.hid (HD.out.later (show Below w1.heap.size w1 w2 from (by repeat (first | (with_reducible first | exact Below.refl _ _ | assumption | refine Below.drew ?_) | ((with_reducible first | refine Lc ?_ ?_ _ | refine Ls ?_ ?_ _ | refine Lv (by assumption) ?_ ?_); · first | exact Nat.le_refl _ | omega | (dsimp only; omega) | (simp only [World.size_alloc, World.size_drew, World.heap_drewN]; omega) | (simp; omega))))))
    have HO2 := Lib.hid (owns_later HO.out (show Below w1.heap.size w1 w2 from (by repeat (first | (with_reducible first | exact Below.refl _ _ | assumption | refine Below.drew ?_) | ((with_reducible first | refine Lc ?_ ?_ _ | refine Ls ?_ ?_ _ | refine Lv (by assumption) ?_ ?_); · first | exact Nat.le_refl _ | omega | (dsimp only; omega) | (simp only [World.size_alloc, World.size_drew, World.heap_drewN]; omega) | (simp; omega))))))
    have hr1 := HD2.out.rd
    clear hb2 HO HD HB1
    by_cases hbe : r.binsErr f t = 0
    · rw [hbe]
      have HBE := Lib.hid hbe
      clear hbe
      by_cases hz : r.round.length = 0
      · have HF : Hid (r.askErr f t = 0) := Lib.hid (by unfold Rw.askErr; rw [if_neg (by simpa using HE.out), if_neg (by simpa using HBE.out), if_pos hz])
        have hno : ¬ (0 : Int) < (r.round.length : Int) := by omega
        go_wp2_with fail
        go_ret2
        exact .inl ⟨HF.out, db, A, c, rfl, by omega, HD2.out.re (H0.out.later HB2.out), owns_low (by simp) HO2.out, HB2.out⟩
      · have HF : Hid (r.askErr f t = 7) := Lib.hid (by unfold Rw.askErr; rw [if_neg (by simpa using HE.out), if_neg (by simpa using HBE.out), if_neg hz])
        have hyes : (0 : Int) < (r.round.length : Int) := by omega
        go_wp2_with fail
        go_ret2
        exact .inr ⟨by rw [HF.out]; decide, by rw [HF.out]; rfl, HB2.out⟩
    · have HF : Hid (r.askErr f t = r.binsErr f t) := Lib.hid (by unfold Rw.askErr; rw [if_neg (by simpa using HE.out), if_pos hbe])
      have hne : (r.binsErr f t != 0) = true := by simpa using hbe
      have HBE := Lib.hid hbe
      clear hbe
      go_wp2_with fail
      go_ret2
      exact .inr ⟨by rw [HF.out]; exact HBE.out, by rw [HF.out]; rfl, HB2.out⟩
  · have HB1 := Lib.hid (show Below W.heap.size W w1 from (by repeat (first | (with_reducible first | exact Below.refl _ _ | refine Below.drew ?_ | refine below_drewN ?_ _) | ((with_reducible first | refine Lc ?_ ?_ _ | refine Ls ?_ ?_ _ | refine Lv (by assumption) ?_ ?_); · first | exact Nat.le_refl _ | omega | (simp; done) | (simp; omega) | (simp at *; omega)))))
    have HE := Lib.hid h0
    have HF : Hid (r.askErr f t = r.check) := Lib.hid (by unfold Rw.askErr; rw [if_pos h0])
    have hne : (r.check != 0) = true := by simpa using h0
    clear h0 hb1
    go_wp2_with fail
    go_ret2
    exact .inr ⟨by rw [HF.out]; exact HE.out, by rw [HF.out]; rfl, HB1.out⟩

set_option maxRecDepth 100000 in
set_option maxHeartbeats 4000000 in
/-- desk.span -/
theorem dspan_any (r : Rw) (hn : r.n ≤ 6) (S : Sk) (f t : Nat) (hf : f < r.n) (ht : t < r.n) (h1 : -1000000 ≤ S.L (t + 1) f ∧ S.L (t + 1) f ≤ 1000000) (db : Nat) (W : World) (hl : LsAt W db r.n S.L) :
    Calls Tryz.prog 92 #[.pointer (some ⟨db, 0, none⟩), .int .i64 f, .int .i64 t] W fun e W' => e = .returned (.agg #[.int .i64 (-S.L (t + 1) f), .int .i64 (S.L f (t + 1))]) ∧ Below W.heap.size W W' := by
  have l1 := hl (t + 1) f (by omega) (by omega)
  have l2 := hl f (t + 1) (by omega) (by omega)
  have e1 : IntKind.i64.wrap ((t : Int) + 1) = (t : Int) + 1 := IntWalk.i64_in _ (by omega)
  obtain ⟨x, hx⟩ : ∃ x, x = S.L (t + 1) f := ⟨_, rfl⟩
  obtain ⟨y, hy⟩ : ∃ y, y = S.L f (t + 1) := ⟨_, rfl⟩
  rw [← hx] at l1 h1 ⊢
  rw [← hy] at l2 ⊢
  have e2 : IntKind.i64.wrap (-x) = -x := IntWalk.i64_in _ (by omega)
  have hf0 : (0 : Int) ≤ (f : Int) := by omega
  have hf7 : (f : Int) < 7 := by omega
  have ht0 : (0 : Int) ≤ (t : Int) + 1 := by omega
  have ht7 : (t : Int) + 1 < 7 := by omega
  clear hx hy hl
  go_enter Tryz.func92, Tryz.ntmps92
  go_upto_region 1 with fail
  go_region_held3 (fun w' => w'.cell? ⟨db, 3 + (t + 1) * 7 + f, none⟩ = some (.int .i64 x) ∧ w'.cell? ⟨db, 3 + f * 7 + (t + 1), none⟩ = some (.int .i64 y)) ((go_split_ands; (repeat' refine And.intro ?_ ?_) <;> (repeat (first | with_reducible assumption | (simp; done) | (with_reducible first | refine Kd ?_ | refine Kn ?_ | refine Kb (by assumption) ?_) | ((with_reducible first | refine Kw ?_ ?_ | refine Fw ?_) <;> first | with_reducible rfl | (simp; done)) | (with_reducible first | refine Ka _ ?_ | refine Ks _ (by first | exact Nat.le_refl _ | omega | (simp; done) | (simp; omega) | (simp at *; omega)) ?_ | refine Fd ?_ | refine Fn ?_ | refine Fb (by assumption) (by first | exact Nat.le_refl _ | omega | (simp; done) | (simp; omega) | (simp at *; omega)) ?_ | refine Fa _ (by first | exact Nat.le_refl _ | omega | (simp; done) | (simp; omega) | (simp at *; omega)) ?_ | refine Fs _ ?_))))) (fail)
  go_wp2_with fail
  exact bodyPost_ret (v := .agg #[.int .i64 (-x), .int .i64 y]) (by simp [results, Tryz.results92, go_sem]) rfl ⟨rfl, (by repeat (first | (with_reducible first | exact Below.refl _ _ | refine Below.drew ?_ | refine below_drewN ?_ _) | ((with_reducible first | refine Lc ?_ ?_ _ | refine Ls ?_ ?_ _ | refine Lv (by assumption) ?_ ?_); · first | exact Nat.le_refl _ | omega | (simp; done) | (simp; omega) | (simp at *; omega))))⟩
end Go.Proofs.YtnnikeolgknfoaaGreat
