/- bin.Sum, bin.Holds, bin.Spans. -/
import Derived.Test.YtnnikeolgknfoaaGreatBl
set_option linter.unusedSimpArgs false
set_option linter.unusedVariables false
namespace Go.Proofs.YtnnikeolgknfoaaGreat
open Go.RowKit Go.Shelf

/-- the span of bins -/
def Rw.span (r : Rw) (f t : Nat) : Sp := ⟨-r.search.1.L (t + 1) f, r.search.1.L f (t + 1)⟩
def Rw.sumS (r : Rw) (f t : Int) : Sp := if r.askErr f t = 0 then r.span f.toNat t.toNat else ⟨0, 0⟩
theorem inB_iff {n lo hi : Int} : inB n lo hi = true ↔ lo ≤ n ∧ n ≤ hi := by unfold inB; simp
theorem Rw.ask_ok {r : Rw} {f t : Int} (h : r.askErr f t = 0) : r.ok ∧ 0 ≤ f ∧ f ≤ t ∧ t < r.n ∧ r.round.length = 0 := by
  unfold Rw.askErr at h
  by_cases h1 : r.check = 0
  · rw [if_neg (by simpa using h1)] at h
    by_cases h2 : r.binsErr f t = 0
    · rw [if_neg (by simpa using h2)] at h
      by_cases h3 : r.round.length = 0
      · unfold Rw.binsErr at h2
        by_cases h4 : (inB f 0 ((r.n : Int) - 1) && inB t 0 ((r.n : Int) - 1)) = false
        · rw [if_pos h4] at h2; cases h2
        · rw [if_neg h4] at h2
          by_cases h5 : t < f
          · rw [if_pos h5] at h2; cases h2
          · rw [Bool.not_eq_false, Bool.and_eq_true, inB_iff, inB_iff] at h4
            exact ⟨Rw.check_ok.1 h1, by omega, by omega, by omega, h3⟩
      · rw [if_neg h3] at h; cases h
    · rw [if_pos h2] at h; exact absurd h h2
  · rw [if_pos h1] at h; exact absurd h h1
theorem Rw.fit_ok {r : Rw} (h : r.fitErr = 0) : r.ok ∧ r.round.length = 0 := by
  unfold Rw.fitErr at h
  by_cases h1 : r.check = 0
  · rw [if_neg (by simpa using h1)] at h
    by_cases h3 : r.round.length = 0
    · exact ⟨Rw.check_ok.1 h1, h3⟩
    · rw [if_neg h3] at h; cases h
  · rw [if_pos h1] at h; exact absurd h h1
theorem Rw.fin_of {r : Rw} (hr : r.ok) (h : r.round.length = 0) : Fin r r.search.1.L r.search.1.F := by
  rcases Rw.round_spec hr with ⟨_, _, h3⟩ | ⟨a, k, _, _, _, _, h4⟩
  · exact h3
  · exact absurd (List.length_eq_zero_iff.1 h) h4.n

set_option maxRecDepth 100000 in
set_option maxHeartbeats 4000000 in
theorem Sum_any (r : Rw) (f t : Int) (bA dA vA : Option Addr) (bc dc vc : Nat) (W : World) (hrow : RwRow W W.heap.size r bA bc dA dc vA vc) :
    Calls Tryz.prog 31 #[rwV bA r.n bc dA r.d dc vA r.m vc, .int .i64 f, .int .i64 t] W fun e W' => e = .returned (.tuple #[spV (r.sumS f t), .int .i64 (r.askErr f t)]) ∧ Below W.heap.size W W' := by
  have H0 := Lib.hid hrow
  clear hrow
  go_enter Tryz.func31, Tryz.ntmps31
  go_wp2_with fail
  refine (asked_any r f t bA dA vA bc dc vc _ ((H0.out.later (by repeat (first | (with_reducible first | exact Below.refl _ _ | assumption | refine Below.drew ?_) | ((with_reducible first | refine Lc ?_ ?_ _ | refine Ls ?_ ?_ _ | refine Lv (by assumption) ?_ ?_); · first | exact Nat.le_refl _ | omega | (dsimp only; omega) | (simp only [World.size_alloc, World.size_drew, World.heap_drewN]; omega) | (simp; omega))))).up (by first | exact Nat.le_refl _ | omega | (simp; done) | (simp; omega) | (simp at *; omega)) (by first | exact Nat.le_refl _ | omega | (simp; done) | (simp; omega) | (simp at *; omega)))).mono ?_
  rintro e w1 (⟨h0, db, A, c, rfl, hdb, hd, ho, hb1⟩ | ⟨h0, rfl, hb1⟩)
  · have HB1 := Lib.hid (show Below W.heap.size W w1 from (by repeat (first | (with_reducible first | exact Below.refl _ _ | refine Below.drew ?_ | refine below_drewN ?_ _) | ((with_reducible first | refine Lc ?_ ?_ _ | refine Ls ?_ ?_ _ | refine Lv (by assumption) ?_ ?_); · first | exact Nat.le_refl _ | omega | (simp; done) | (simp; omega) | (simp at *; omega)))))
    have r0 : w1.cell? ⟨W.heap.size + 1, 0, none⟩ = some (.int .i64 0) := Kb hb1 (by (repeat' refine And.intro ?_ ?_) <;> (repeat (first | with_reducible assumption | (simp; done) | (with_reducible first | refine Kd ?_ | refine Kn ?_ | refine Kb (by assumption) ?_) | ((with_reducible first | refine Kw ?_ ?_ | refine Fw ?_) <;> first | with_reducible rfl | (simp; done)) | (with_reducible first | refine Ka _ ?_ | refine Ks _ (by first | exact Nat.le_refl _ | omega | (simp; done) | (simp; omega)) ?_ | refine Fd ?_ | refine Fn ?_ | refine Fb (by assumption) (by first | exact Nat.le_refl _ | omega | (simp; done) | (simp; omega)) ?_ | refine Fa _ (by first | exact Nat.le_refl _ | omega | (simp; done) | (simp; omega)) ?_ | refine Fs _ ?_))))
    have r1 : w1.cell? ⟨W.heap.size + 1, 1, none⟩ = some (.int .i64 0) := Kb hb1 (by (repeat' refine And.intro ?_ ?_) <;> (repeat (first | with_reducible assumption | (simp; done) | (with_reducible first | refine Kd ?_ | refine Kn ?_ | refine Kb (by assumption) ?_) | ((with_reducible first | refine Kw ?_ ?_ | refine Fw ?_) <;> first | with_reducible rfl | (simp; done)) | (with_reducible first | refine Ka _ ?_ | refine Ks _ (by first | exact Nat.le_refl _ | omega | (simp; done) | (simp; omega)) ?_ | refine Fd ?_ | refine Fn ?_ | refine Fb (by assumption) (by first | exact Nat.le_refl _ | omega | (simp; done) | (simp; omega)) ?_ | refine Fa _ (by first | exact Nat.le_refl _ | omega | (simp; done) | (simp; omega)) ?_ | refine Fs _ ?_))))
    have f0 : w1.frozen? ⟨W.heap.size + 1, 0, none⟩ = false := fro_below_cell hb1 (v := .int .i64 0) (by (repeat' refine And.intro ?_ ?_) <;> (repeat (first | with_reducible assumption | (simp; done) | (with_reducible first | refine Kd ?_ | refine Kn ?_ | refine Kb (by assumption) ?_) | ((with_reducible first | refine Kw ?_ ?_ | refine Fw ?_) <;> first | with_reducible rfl | (simp; done)) | (with_reducible first | refine Ka _ ?_ | refine Ks _ (by first | exact Nat.le_refl _ | omega | (simp; done) | (simp; omega)) ?_ | refine Fd ?_ | refine Fn ?_ | refine Fb (by assumption) (by first | exact Nat.le_refl _ | omega | (simp; done) | (simp; omega)) ?_ | refine Fa _ (by first | exact Nat.le_refl _ | omega | (simp; done) | (simp; omega)) ?_ | refine Fs _ ?_)))) (by (repeat' refine And.intro ?_ ?_) <;> (repeat (first | with_reducible assumption | (simp; done) | (with_reducible first | refine Kd ?_ | refine Kn ?_ | refine Kb (by assumption) ?_) | ((with_reducible first | refine Kw ?_ ?_ | refine Fw ?_) <;> first | with_reducible rfl | (simp; done)) | (with_reducible first | refine Ka _ ?_ | refine Ks _ (by first | exact Nat.le_refl _ | omega | (simp; done) | (simp; omega)) ?_ | refine Fd ?_ | refine Fn ?_ | refine Fb (by assumption) (by first | exact Nat.le_refl _ | omega | (simp; done) | (simp; omega)) ?_ | refine Fa _ (by first | exact Nat.le_refl _ | omega | (simp; done) | (simp; omega)) ?_ | refine Fs _ ?_))))
    have f1 : w1.frozen? ⟨W.heap.size + 1, 1, none⟩ = false := fro_below_cell hb1 (v := .int .i64 0) (by (repeat' refine And.intro ?_ ?_) <;> (repeat (first | with_reducible assumption | (simp; done) | (with_reducible first | refine Kd ?_ | refine Kn ?_ | refine Kb (by assumption) ?_) | ((with_reducible first | refine Kw ?_ ?_ | refine Fw ?_) <;> first | with_reducible rfl | (simp; done)) | (with_reducible first | refine Ka _ ?_ | refine Ks _ (by first | exact Nat.le_refl _ | omega | (simp; done) | (simp; omega)) ?_ | refine Fd ?_ | refine Fn ?_ | refine Fb (by assumption) (by first | exact Nat.le_refl _ | omega | (simp; done) | (simp; omega)) ?_ | refine Fa _ (by first | exact Nat.le_refl _ | omega | (simp; done) | (simp; omega)) ?_ | refine Fs _ ?_)))) (by (repeat' refine And.intro ?_ ?_) <;> (repeat (first | with_reducible assumption | (simp; done) | (with_reducible first | refine Kd ?_ | refine Kn ?_ | refine Kb (by assumption) ?_) | ((with_reducible first | refine Kw ?_ ?_ | refine Fw ?_) <;> first | with_reducible rfl | (simp; done)) | (with_reducible first | refine Ka _ ?_ | refine Ks _ (by first | exact Nat.le_refl _ | omega | (simp; done) | (simp; omega)) ?_ | refine Fd ?_ | refine Fn ?_ | refine Fb (by assumption) (by first | exact Nat.le_refl _ | omega | (simp; done) | (simp; omega)) ?_ | refine Fa _ (by first | exact Nat.le_refl _ | omega | (simp; done) | (simp; omega)) ?_ | refine Fs _ ?_))))
    have hz1 := hb1.size
    simp only [World.size_alloc, World.size_drew] at hz1
    obtain ⟨hok, hf0, hft, htn, hrd⟩ := Rw.ask_ok h0
    obtain ⟨f', rfl⟩ := Int.eq_ofNat_of_zero_le hf0
    obtain ⟨t', rfl⟩ := Int.eq_ofNat_of_zero_le (by omega : 0 ≤ t)
    have hfin := Rw.fin_of hok hrd
    have hbd := hfin.d (t' + 1) f' (by omega) (by omega)
    have hn6 := hok.n6
    have HV : Hid (r.sumS (f' : Int) (t' : Int) = ⟨-r.search.1.L (t' + 1) f', r.search.1.L f' (t' + 1)⟩) := Lib.hid (by unfold Rw.sumS; rw [if_pos h0]; rfl)
    have HL := Lib.hid hd.l
    have HE := Lib.hid h0
    have hdlt := hd.lt
    clear h0 hd ho hb1 hok hfin hrd hf0
    go_wp2_with fail
    refine (dspan_any r hn6 r.search.1 f' t' (by omega) (by omega) (by omega) db _ (HL.out.same (by first | rfl | exact Below.block (by repeat (first | (with_reducible first | exact Below.refl _ _ | assumption | refine Below.drew ?_) | ((with_reducible first | refine Lc ?_ ?_ _ | refine Ls ?_ ?_ _ | refine Lv (by assumption) ?_ ?_); · first | exact Nat.le_refl _ | omega | (dsimp only; omega) | (simp only [World.size_alloc, World.size_drew, World.heap_drewN]; omega) | (simp; omega)))) _ hdlt))).mono ?_
    rintro e w2 ⟨rfl, hb2⟩
    have q0 : w2.cell? ⟨W.heap.size + 1, 0, none⟩ = some (.int .i64 0) := Kb hb2 (by (repeat' refine And.intro ?_ ?_) <;> (repeat (first | with_reducible assumption | (simp; done) | (with_reducible first | refine Kd ?_ | refine Kn ?_ | refine Kb (by assumption) ?_) | ((with_reducible first | refine Kw ?_ ?_ | refine Fw ?_) <;> first | with_reducible rfl | (simp; done)) | (with_reducible first | refine Ka _ ?_ | refine Ks _ (by first | exact Nat.le_refl _ | omega | (simp; done) | (simp; omega)) ?_ | refine Fd ?_ | refine Fn ?_ | refine Fb (by assumption) (by first | exact Nat.le_refl _ | omega | (simp; done) | (simp; omega)) ?_ | refine Fa _ (by first | exact Nat.le_refl _ | omega | (simp; done) | (simp; omega)) ?_ | refine Fs _ ?_))))
    have q1 : w2.cell? ⟨W.heap.size + 1, 1, none⟩ = some (.int .i64 0) := Kb hb2 (by (repeat' refine And.intro ?_ ?_) <;> (repeat (first | with_reducible assumption | (simp; done) | (with_reducible first | refine Kd ?_ | refine Kn ?_ | refine Kb (by assumption) ?_) | ((with_reducible first | refine Kw ?_ ?_ | refine Fw ?_) <;> first | with_reducible rfl | (simp; done)) | (with_reducible first | refine Ka _ ?_ | refine Ks _ (by first | exact Nat.le_refl _ | omega | (simp; done) | (simp; omega)) ?_ | refine Fd ?_ | refine Fn ?_ | refine Fb (by assumption) (by first | exact Nat.le_refl _ | omega | (simp; done) | (simp; omega)) ?_ | refine Fa _ (by first | exact Nat.le_refl _ | omega | (simp; done) | (simp; omega)) ?_ | refine Fs _ ?_))))
    have g0 : w2.frozen? ⟨W.heap.size + 1, 0, none⟩ = false := fro_below_cell hb2 (v := .int .i64 0) (by (repeat' refine And.intro ?_ ?_) <;> (repeat (first | with_reducible assumption | (simp; done) | (with_reducible first | refine Kd ?_ | refine Kn ?_ | refine Kb (by assumption) ?_) | ((with_reducible first | refine Kw ?_ ?_ | refine Fw ?_) <;> first | with_reducible rfl | (simp; done)) | (with_reducible first | refine Ka _ ?_ | refine Ks _ (by first | exact Nat.le_refl _ | omega | (simp; done) | (simp; omega)) ?_ | refine Fd ?_ | refine Fn ?_ | refine Fb (by assumption) (by first | exact Nat.le_refl _ | omega | (simp; done) | (simp; omega)) ?_ | refine Fa _ (by first | exact Nat.le_refl _ | omega | (simp; done) | (simp; omega)) ?_ | refine Fs _ ?_)))) (by (repeat' refine And.intro ?_ ?_) <;> (repeat (first | with_reducible assumption | (simp; done) | (with_reducible first | refine Kd ?_ | refine Kn ?_ | refine Kb (by assumption) ?_) | ((with_reducible first | refine Kw ?_ ?_ | refine Fw ?_) <;> first | with_reducible rfl | (simp; done)) | (with_reducible first | refine Ka _ ?_ | refine Ks _ (by first | exact Nat.le_refl _ | omega | (simp; done) | (simp; omega)) ?_ | refine Fd ?_ | refine Fn ?_ | refine Fb (by assumption) (by first | exact Nat.le_refl _ | omega | (simp; done) | (simp; omega)) ?_ | refine Fa _ (by first | exact Nat.le_refl _ | omega | (simp; done) | (simp; omega)) ?_ | refine Fs _ ?_))))
    have g1 : w2.frozen? ⟨W.heap.size + 1, 1, none⟩ = false := fro_below_cell hb2 (v := .int .i64 0) (by (repeat' refine And.intro ?_ ?_) <;> (repeat (first | with_reducible assumption | (simp; done) | (with_reducible first | refine Kd ?_ | refine Kn ?_ | refine Kb (by assumption) ?_) | ((with_reducible first | refine Kw ?_ ?_ | refine Fw ?_) <;> first | with_reducible rfl | (simp; done)) | (with_reducible first | refine Ka _ ?_ | refine Ks _ (by first | exact Nat.le_refl _ | omega | (simp; done) | (simp; omega)) ?_ | refine Fd ?_ | refine Fn ?_ | refine Fb (by assumption) (by first | exact Nat.le_refl _ | omega | (simp; done) | (simp; omega)) ?_ | refine Fa _ (by first | exact Nat.le_refl _ | omega | (simp; done) | (simp; omega)) ?_ | refine Fs _ ?_)))) (by (repeat' refine And.intro ?_ ?_) <;> (repeat (first | with_reducible assumption | (simp; done) | (with_reducible first | refine Kd ?_ | refine Kn ?_ | refine Kb (by assumption) ?_) | ((with_reducible first | refine Kw ?_ ?_ | refine Fw ?_) <;> first | with_reducible rfl | (simp; done)) | (with_reducible first | refine Ka _ ?_ | refine Ks _ (by first | exact Nat.le_refl _ | omega | (simp; done) | (simp; omega)) ?_ | refine Fd ?_ | refine Fn ?_ | refine Fb (by assumption) (by first | exact Nat.le_refl _ | omega | (simp; done) | (simp; omega)) ?_ | refine Fa _ (by first | exact Nat.le_refl _ | omega | (simp; done) | (simp; omega)) ?_ | refine Fs _ ?_))))
    have HB2 := Lib.hid (HB1.out.trans ((show Below w1.heap.size w1 w2 from (by repeat (first | (with_reducible first | exact Below.refl _ _ | assumption | refine Below.drew ?_) | ((with_reducible first | refine Lc ?_ ?_ _ | refine Ls ?_ ?_ _ | refine Lv (by assumption) ?_ ?_); · first | exact Nat.le_refl _ | omega | (dsimp only; omega) | (simp only [World.size_alloc, World.size_drew, World.heap_drewN]; omega) | (simp; omega))))).mono HB1.out.size))
    clear hb2 r0 r1 f0 f1 HB1
    go_wp2_with fail
    exact bodyPost_ret (v := .tuple #[.agg #[.int .i64 (-r.search.1.L (t' + 1) f'), .int .i64 (r.search.1.L f' (t' + 1))], .int .i64 0]) (by simp [results, Tryz.results31, go_sem, q0, q1]) rfl ⟨by rw [HV.out, HE.out], by have h := HB2.out; repeat (first | (with_reducible first | exact Below.refl _ _ | assumption | refine Below.drew ?_) | ((with_reducible first | refine Lc ?_ ?_ _ | refine Ls ?_ ?_ _ | refine Lv (by assumption) ?_ ?_); · first | exact Nat.le_refl _ | omega | (dsimp only; omega) | (simp only [World.size_alloc, World.size_drew, World.heap_drewN]; omega) | (simp; omega)))⟩
  · have HB1 := Lib.hid (show Below W.heap.size W w1 from (by repeat (first | (with_reducible first | exact Below.refl _ _ | refine Below.drew ?_ | refine below_drewN ?_ _) | ((with_reducible first | refine Lc ?_ ?_ _ | refine Ls ?_ ?_ _ | refine Lv (by assumption) ?_ ?_); · first | exact Nat.le_refl _ | omega | (simp; done) | (simp; omega) | (simp at *; omega)))))
    have r0 : w1.cell? ⟨W.heap.size + 1, 0, none⟩ = some (.int .i64 0) := Kb hb1 (by (repeat' refine And.intro ?_ ?_) <;> (repeat (first | with_reducible assumption | (simp; done) | (with_reducible first | refine Kd ?_ | refine Kn ?_ | refine Kb (by assumption) ?_) | ((with_reducible first | refine Kw ?_ ?_ | refine Fw ?_) <;> first | with_reducible rfl | (simp; done)) | (with_reducible first | refine Ka _ ?_ | refine Ks _ (by first | exact Nat.le_refl _ | omega | (simp; done) | (simp; omega)) ?_ | refine Fd ?_ | refine Fn ?_ | refine Fb (by assumption) (by first | exact Nat.le_refl _ | omega | (simp; done) | (simp; omega)) ?_ | refine Fa _ (by first | exact Nat.le_refl _ | omega | (simp; done) | (simp; omega)) ?_ | refine Fs _ ?_))))
    have r1 : w1.cell? ⟨W.heap.size + 1, 1, none⟩ = some (.int .i64 0) := Kb hb1 (by (repeat' refine And.intro ?_ ?_) <;> (repeat (first | with_reducible assumption | (simp; done) | (with_reducible first | refine Kd ?_ | refine Kn ?_ | refine Kb (by assumption) ?_) | ((with_reducible first | refine Kw ?_ ?_ | refine Fw ?_) <;> first | with_reducible rfl | (simp; done)) | (with_reducible first | refine Ka _ ?_ | refine Ks _ (by first | exact Nat.le_refl _ | omega | (simp; done) | (simp; omega)) ?_ | refine Fd ?_ | refine Fn ?_ | refine Fb (by assumption) (by first | exact Nat.le_refl _ | omega | (simp; done) | (simp; omega)) ?_ | refine Fa _ (by first | exact Nat.le_refl _ | omega | (simp; done) | (simp; omega)) ?_ | refine Fs _ ?_))))
    have f0 : w1.frozen? ⟨W.heap.size + 1, 0, none⟩ = false := fro_below_cell hb1 (v := .int .i64 0) (by (repeat' refine And.intro ?_ ?_) <;> (repeat (first | with_reducible assumption | (simp; done) | (with_reducible first | refine Kd ?_ | refine Kn ?_ | refine Kb (by assumption) ?_) | ((with_reducible first | refine Kw ?_ ?_ | refine Fw ?_) <;> first | with_reducible rfl | (simp; done)) | (with_reducible first | refine Ka _ ?_ | refine Ks _ (by first | exact Nat.le_refl _ | omega | (simp; done) | (simp; omega)) ?_ | refine Fd ?_ | refine Fn ?_ | refine Fb (by assumption) (by first | exact Nat.le_refl _ | omega | (simp; done) | (simp; omega)) ?_ | refine Fa _ (by first | exact Nat.le_refl _ | omega | (simp; done) | (simp; omega)) ?_ | refine Fs _ ?_)))) (by (repeat' refine And.intro ?_ ?_) <;> (repeat (first | with_reducible assumption | (simp; done) | (with_reducible first | refine Kd ?_ | refine Kn ?_ | refine Kb (by assumption) ?_) | ((with_reducible first | refine Kw ?_ ?_ | refine Fw ?_) <;> first | with_reducible rfl | (simp; done)) | (with_reducible first | refine Ka _ ?_ | refine Ks _ (by first | exact Nat.le_refl _ | omega | (simp; done) | (simp; omega)) ?_ | refine Fd ?_ | refine Fn ?_ | refine Fb (by assumption) (by first | exact Nat.le_refl _ | omega | (simp; done) | (simp; omega)) ?_ | refine Fa _ (by first | exact Nat.le_refl _ | omega | (simp; done) | (simp; omega)) ?_ | refine Fs _ ?_))))
    have f1 : w1.frozen? ⟨W.heap.size + 1, 1, none⟩ = false := fro_below_cell hb1 (v := .int .i64 0) (by (repeat' refine And.intro ?_ ?_) <;> (repeat (first | with_reducible assumption | (simp; done) | (with_reducible first | refine Kd ?_ | refine Kn ?_ | refine Kb (by assumption) ?_) | ((with_reducible first | refine Kw ?_ ?_ | refine Fw ?_) <;> first | with_reducible rfl | (simp; done)) | (with_reducible first | refine Ka _ ?_ | refine Ks _ (by first | exact Nat.le_refl _ | omega | (simp; done) | (simp; omega)) ?_ | refine Fd ?_ | refine Fn ?_ | refine Fb (by assumption) (by first | exact Nat.le_refl _ | omega | (simp; done) | (simp; omega)) ?_ | refine Fa _ (by first | exact Nat.le_refl _ | omega | (simp; done) | (simp; omega)) ?_ | refine Fs _ ?_)))) (by (repeat' refine And.intro ?_ ?_) <;> (repeat (first | with_reducible assumption | (simp; done) | (with_reducible first | refine Kd ?_ | refine Kn ?_ | refine Kb (by assumption) ?_) | ((with_reducible first | refine Kw ?_ ?_ | refine Fw ?_) <;> first | with_reducible rfl | (simp; done)) | (with_reducible first | refine Ka _ ?_ | refine Ks _ (by first | exact Nat.le_refl _ | omega | (simp; done) | (simp; omega)) ?_ | refine Fd ?_ | refine Fn ?_ | refine Fb (by assumption) (by first | exact Nat.le_refl _ | omega | (simp; done) | (simp; omega)) ?_ | refine Fa _ (by first | exact Nat.le_refl _ | omega | (simp; done) | (simp; omega)) ?_ | refine Fs _ ?_))))
    have hne : (r.askErr f t != 0) = true := by simpa using h0
    have HV : Hid (r.sumS f t = ⟨0, 0⟩) := Lib.hid (by unfold Rw.sumS; rw [if_neg h0])
    clear h0 hb1
    go_wp2_with fail
    exact bodyPost_ret (v := .tuple #[.agg #[.int .i64 0, .int .i64 0], .int .i64 (r.askErr f t)]) (by simp [results, Tryz.results31, go_sem, r0, r1]) rfl ⟨by rw [HV.out], by have h := HB1.out; repeat (first | (with_reducible first | exact Below.refl _ _ | assumption | refine Below.drew ?_) | ((with_reducible first | refine Lc ?_ ?_ _ | refine Ls ?_ ?_ _ | refine Lv (by assumption) ?_ ?_); · first | exact Nat.le_refl _ | omega | (dsimp only; omega) | (simp only [World.size_alloc, World.size_drew, World.heap_drewN]; omega) | (simp; omega)))⟩

/-- spans of one's own, or an error -/
def SpsPost (n : Nat) (X : Nat → Sp) (er : Int) (W : World) (e : Ending) (W' : World) : Prop :=
  (er = 0 ∧ ∃ v, e = Ending.returned (.tuple #[v, .int .i64 0]) ∧ W'.ownsRow W.heap.size 49 2 v n (rowC spC X n) ∧ Below W.heap.size W W') ∨ (er ≠ 0 ∧ e = Ending.returned (.tuple #[.slice none 0 0, .int .i64 er]) ∧ Below W.heap.size W W')

set_option maxRecDepth 100000 in
set_option maxHeartbeats 4000000 in
theorem Holds_any (r : Rw) (bA dA vA : Option Addr) (bc dc vc : Nat) (W : World) (hrow : RwRow W W.heap.size r bA bc dA dc vA vc) :
    Calls Tryz.prog 35 #[rwV bA r.n bc dA r.d dc vA r.m vc] W (SpsPost r.n (fun k => r.span k k) r.fitErr W) := by
  have H0 := Lib.hid hrow
  clear hrow
  obtain ⟨i0, hi, hz0, hz1, hz2⟩ := info_parts infoSp
  go_enter Tryz.func35, Tryz.ntmps35
  go_wp2_with fail
  refine (fitting_any r bA dA vA bc dc vc _ ((H0.out.later (by repeat (first | (with_reducible first | exact Below.refl _ _ | assumption | refine Below.drew ?_) | ((with_reducible first | refine Lc ?_ ?_ _ | refine Ls ?_ ?_ _ | refine Lv (by assumption) ?_ ?_); · first | exact Nat.le_refl _ | omega | (dsimp only; omega) | (simp only [World.size_alloc, World.size_drew, World.heap_drewN]; omega) | (simp; omega))))).up (by first | exact Nat.le_refl _ | omega | (simp; done) | (simp; omega) | (simp at *; omega)) (by first | exact Nat.le_refl _ | omega | (simp; done) | (simp; omega) | (simp at *; omega)))).mono ?_
  rintro e w1 (⟨h0, db, A, c, rfl, hdb, hd, ho, hb1⟩ | ⟨h0, rfl, hb1⟩)
  · have HB1 := Lib.hid (show Below W.heap.size W w1 from (by repeat (first | (with_reducible first | exact Below.refl _ _ | refine Below.drew ?_ | refine below_drewN ?_ _) | ((with_reducible first | refine Lc ?_ ?_ _ | refine Ls ?_ ?_ _ | refine Lv (by assumption) ?_ ?_); · first | exact Nat.le_refl _ | omega | (simp; done) | (simp; omega) | (simp at *; omega)))))
    have c0 : w1.cell? ⟨W.heap.size, 0, none⟩ = some (.slice bA r.n bc) := Kb hb1 (by (repeat' refine And.intro ?_ ?_) <;> (repeat (first | with_reducible assumption | (simp; done) | (with_reducible first | refine Kd ?_ | refine Kn ?_ | refine Kb (by assumption) ?_) | ((with_reducible first | refine Kw ?_ ?_ | refine Fw ?_) <;> first | with_reducible rfl | (simp; done)) | (with_reducible first | refine Ka _ ?_ | refine Ks _ (by first | exact Nat.le_refl _ | omega | (simp; done) | (simp; omega)) ?_ | refine Fd ?_ | refine Fn ?_ | refine Fb (by assumption) (by first | exact Nat.le_refl _ | omega | (simp; done) | (simp; omega)) ?_ | refine Fa _ (by first | exact Nat.le_refl _ | omega | (simp; done) | (simp; omega)) ?_ | refine Fs _ ?_))))
    have hs1 := hb1.size
    simp only [World.size_alloc, World.size_drew] at hs1
    obtain ⟨hok, hrd⟩ := Rw.fit_ok h0
    have HFI := Lib.hid (Rw.fin_of hok hrd)
    have hn6 := hok.n6
    have HL := Lib.hid hd.l
    have HE := Lib.hid h0
    have hdlt := hd.lt
    have hge0 : ¬ ((r.n : Int) < 0) := by omega
    clear h0 hd ho hb1 hok hrd
    go_wp2_with fail
    go_loopw [6, 19] (fun v i wr => ∃ k : Nat, k ≤ r.n ∧ i = .int .i64 k ∧ Hid (wr.ownsRow w1.heap.size 49 2 v k (rowC spC (fun k => r.span k k) k)) ∧ Hid (LsAt wr db r.n r.search.1.L) ∧ Hid (Below W.heap.size W wr) ∧ w1.heap.size ≤ wr.heap.size) (fun _ i _ => r.n - (intOf i).toNat)
    case atStart => exact ⟨0, Nat.zero_le _, rfl, Lib.hid (World.ownsRow_nil _ _ _ _), HL, HB1, Nat.le_refl _⟩
    case round =>
      clear HL HB1
      obtain ⟨k, hk, rfl, HO, HL, HB, hsz⟩ := hrel
      by_cases hlt : k < r.n
      · have hkn : (k : Int) < (r.n : Int) := by omega
        have hk0 : (0 : Int) ≤ (k : Int) := by omega
        have ek : IntKind.i64.wrap ((k : Int) + 1) = (k : Int) + 1 := IntWalk.i64_in _ (by omega)
        have hbd := HFI.out.d (k + 1) k (by omega) (by omega)
        obtain ⟨wo, rfl⟩ : ∃ wo, wo = wr := ⟨_, rfl⟩
        have hv1 := HO.out.lt
        go_wp2_with fail
        refine (dspan_any r hn6 r.search.1 k k hlt hlt (by omega) db _ HL.out).mono ?_
        rintro e w2 ⟨rfl, hb2⟩
        have hz3 := hb2.size
        have HO2 := Lib.hid (owns_later HO.out hb2)
        have HS : spC (r.span k k) = [.int .i64 (-r.search.1.L (k + 1) k), .int .i64 (r.search.1.L k (k + 1))] := rfl
        have hv2 := HO2.out.lt
        go_upto_region 9 with (at_builtin; refine wpList_append_lies _ rfl (.tmp 22) (.tmp 27) 55 rfl w1.heap.size 49 i0 (.agg #[.int .i64 0, .int .i64 0]) 2 16 sps_under hi hz0 hz1 hz2 rfl (by decide) u6 k (rowC spC (fun k => r.span k k) k) rfl (HO2.out.alloc _) ⟨w2.heap.size, 0, none⟩ 1 1 [.int .i64 (-r.search.1.L (k + 1) k), .int .i64 (r.search.1.L k (k + 1))] rfl rfl (new_cells (cs := [.int .i64 (-r.search.1.L (k + 1) k), .int .i64 (r.search.1.L k (k + 1))])) (spC_one (r.span k k)) (by omega) (by unfold maxLen; omega) (by omega) (by simp; omega) (w2.heap.size + 1) (by simp) ?_; intro g cap w6 hown6 hgr6 hat6 hlt6)
        have hB6 : Below w1.heap.size wo w6 := Below.grown (((Below.refl wo.heap.size wo).trans hb2).mono hsz |>.alloc (by omega) _) hgr6 (by simp; omega) (fun q hq => (hv2 q hq).1)
        have HO6 : Hid (w6.ownsRow w1.heap.size 49 2 (.slice (some ⟨g, 0, none⟩) (k + 1) cap) (k + 1) (rowC spC (fun k => r.span k k) (k + 1))) := Lib.hid hown6
        have HL6 := Lib.hid (HL.out.same (hB6.block db hdlt))
        have HB6 := Lib.hid (HB.out.trans (hB6.mono (by omega)))
        have hz6 : w1.heap.size ≤ w6.heap.size := Nat.le_trans hsz hB6.size
        clear hown6 hgr6 hat6 hlt6 hB6 HO2 hv2 hb2 HS hbd
        go_wp2_with fail
        go_roundw
        case rel => exact ⟨k + 1, by omega, by go_num, HO6, HL6, HB6, hz6⟩
        case measure => simp [intOf]; omega
      · obtain rfl : k = r.n := by omega
        have hge : ¬ (r.n : Int) < (r.n : Int) := by omega
        go_wp2_with fail
        go_ret2
        exact .inl ⟨HE.out, _, rfl, owns_low (by omega) HO.out, HB.out⟩
  · have HB1 := Lib.hid (show Below W.heap.size W w1 from (by repeat (first | (with_reducible first | exact Below.refl _ _ | refine Below.drew ?_ | refine below_drewN ?_ _) | ((with_reducible first | refine Lc ?_ ?_ _ | refine Ls ?_ ?_ _ | refine Lv (by assumption) ?_ ?_); · first | exact Nat.le_refl _ | omega | (simp; done) | (simp; omega) | (simp at *; omega)))))
    have hne : (r.fitErr != 0) = true := by simpa using h0
    have HE := Lib.hid h0
    clear h0 hb1
    go_wp2_with fail
    go_ret2
    exact .inr ⟨HE.out, rfl, HB1.out⟩

set_option maxRecDepth 100000 in
set_option maxHeartbeats 4000000 in
theorem Spans_any (r : Rw) (bA dA vA : Option Addr) (bc dc vc : Nat) (W : World) (hrow : RwRow W W.heap.size r bA bc dA dc vA vc) :
    Calls Tryz.prog 50 #[rwV bA r.n bc dA r.d dc vA r.m vc] W (SpsPost r.n r.sp r.check W) := by
  have H0 := Lib.hid hrow
  clear hrow
  obtain ⟨i0, hi, hz0, hz1, hz2⟩ := info_parts infoSp
  go_enter Tryz.func50, Tryz.ntmps50
  go_wp2_with fail
  refine (check_any r bA dA vA bc dc vc _ ((H0.out.later (by repeat (first | (with_reducible first | exact Below.refl _ _ | assumption | refine Below.drew ?_) | ((with_reducible first | refine Lc ?_ ?_ _ | refine Ls ?_ ?_ _ | refine Lv (by assumption) ?_ ?_); · first | exact Nat.le_refl _ | omega | (dsimp only; omega) | (simp only [World.size_alloc, World.size_drew, World.heap_drewN]; omega) | (simp; omega))))).up (by first | exact Nat.le_refl _ | omega | (simp; done) | (simp; omega) | (simp at *; omega)) (by first | exact Nat.le_refl _ | omega | (simp; done) | (simp; omega) | (simp at *; omega)))).mono ?_
  rintro e w1 ⟨rfl, hb1⟩
  have HB1 := Lib.hid (show Below W.heap.size W w1 from (by repeat (first | (with_reducible first | exact Below.refl _ _ | refine Below.drew ?_ | refine below_drewN ?_ _) | ((with_reducible first | refine Lc ?_ ?_ _ | refine Ls ?_ ?_ _ | refine Lv (by assumption) ?_ ?_); · first | exact Nat.le_refl _ | omega | (simp; done) | (simp; omega) | (simp at *; omega)))))
  have c0 : w1.cell? ⟨W.heap.size, 0, none⟩ = some (.slice bA r.n bc) := Kb hb1 (by (repeat' refine And.intro ?_ ?_) <;> (repeat (first | with_reducible assumption | (simp; done) | (with_reducible first | refine Kd ?_ | refine Kn ?_ | refine Kb (by assumption) ?_) | ((with_reducible first | refine Kw ?_ ?_ | refine Fw ?_) <;> first | with_reducible rfl | (simp; done)) | (with_reducible first | refine Ka _ ?_ | refine Ks _ (by first | exact Nat.le_refl _ | omega | (simp; done) | (simp; omega)) ?_ | refine Fd ?_ | refine Fn ?_ | refine Fb (by assumption) (by first | exact Nat.le_refl _ | omega | (simp; done) | (simp; omega)) ?_ | refine Fa _ (by first | exact Nat.le_refl _ | omega | (simp; done) | (simp; omega)) ?_ | refine Fs _ ?_))))
  have c1 : w1.cell? ⟨W.heap.size, 1, none⟩ = some (.slice dA r.d dc) := Kb hb1 (by (repeat' refine And.intro ?_ ?_) <;> (repeat (first | with_reducible assumption | (simp; done) | (with_reducible first | refine Kd ?_ | refine Kn ?_ | refine Kb (by assumption) ?_) | ((with_reducible first | refine Kw ?_ ?_ | refine Fw ?_) <;> first | with_reducible rfl | (simp; done)) | (with_reducible first | refine Ka _ ?_ | refine Ks _ (by first | exact Nat.le_refl _ | omega | (simp; done) | (simp; omega)) ?_ | refine Fd ?_ | refine Fn ?_ | refine Fb (by assumption) (by first | exact Nat.le_refl _ | omega | (simp; done) | (simp; omega)) ?_ | refine Fa _ (by first | exact Nat.le_refl _ | omega | (simp; done) | (simp; omega)) ?_ | refine Fs _ ?_))))
  have hs1 := hb1.size
  simp only [World.size_alloc, World.size_drew] at hs1
  by_cases h0 : r.check = 0
  · have hok := Rw.check_ok.1 h0
    have HOK := Lib.hid hok
    have hn6 := hok.n6
    have hd7 := hok.d7
    have HE := Lib.hid h0
    have HR := Lib.hid (H0.out.later HB1.out)
    have hW := H0.out.lt
    have hge0 : ¬ ((r.n : Int) < 0) := by omega
    rw [h0]
    clear h0 hb1 hok
    go_wp2_with fail
    have HC1 := Lib.hid c1
    clear c1 c0
    go_loopw [5, 16] (fun v i wr => ∃ k : Nat, k ≤ r.n ∧ i = .int .i64 k ∧ Hid (wr.ownsRow w1.heap.size 49 2 v k (rowC spC r.sp k)) ∧ Hid (wr.cell? ⟨W.heap.size, 1, none⟩ = some (.slice dA r.d dc)) ∧ Hid (RwRow wr W.heap.size r bA bc dA dc vA vc) ∧ Hid (Below W.heap.size W wr) ∧ w1.heap.size ≤ wr.heap.size) (fun _ i _ => r.n - (intOf i).toNat)
    case atStart => exact ⟨0, Nat.zero_le _, rfl, Lib.hid (World.ownsRow_nil _ _ _ _), HC1, HR, HB1, Nat.le_refl _⟩
    case round =>
      clear HC1 HR HB1
      obtain ⟨k, hk, rfl, HO, HC, HR, HB, hsz⟩ := hrel
      by_cases hlt : k < r.n
      · have hkn : (k : Int) < (r.n : Int) := by omega
        have hk0 : (0 : Int) ≤ (k : Int) := by omega
        have ek : IntKind.i64.wrap ((k : Int) + 1) = (k : Int) + 1 := IntWalk.i64_in _ (by omega)
        obtain ⟨wo, rfl⟩ : ∃ wo, wo = wr := ⟨_, rfl⟩
        have hv1 := HO.out.lt
        have d1 := HC.out
        obtain ⟨b, o, hA, hb, b0, b1, b2, b3, b4, b5, b6⟩ := HR.out.b k hlt
        subst hA
        go_wp2_with fail
        refine (bspan_any (r.B k) dA r.d dc r.D _ HR.out.dc (((HR.out.later (by repeat (first | (with_reducible first | exact Below.refl _ _ | assumption | refine Below.drew ?_) | ((with_reducible first | refine Lc ?_ ?_ _ | refine Ls ?_ ?_ _ | refine Lv (by assumption) ?_ ?_); · first | exact Nat.le_refl _ | omega | (dsimp only; omega) | (simp only [World.size_alloc, World.size_drew, World.heap_drewN]; omega) | (simp; omega))))).up (by first | exact Nat.le_refl _ | omega | (simp; done) | (simp; omega) | (simp at *; omega)) (by first | exact Nat.le_refl _ | omega | (simp; done) | (simp; omega) | (simp at *; omega))).d) hd7 (HOK.out.b k hlt) HOK.out.k).mono ?_
        rintro e w2 ⟨rfl, hb2⟩
        have HO2 := Lib.hid (owns_later HO.out (show Below wo.heap.size wo w2 from (by repeat (first | (with_reducible first | exact Below.refl _ _ | assumption | refine Below.drew ?_) | ((with_reducible first | refine Lc ?_ ?_ _ | refine Ls ?_ ?_ _ | refine Lv (by assumption) ?_ ?_); · first | exact Nat.le_refl _ | omega | (dsimp only; omega) | (simp only [World.size_alloc, World.size_drew, World.heap_drewN]; omega) | (simp; omega))))))
        have hB2 := Lib.hid (show Below wo.heap.size wo w2 from (by repeat (first | (with_reducible first | exact Below.refl _ _ | assumption | refine Below.drew ?_) | ((with_reducible first | refine Lc ?_ ?_ _ | refine Ls ?_ ?_ _ | refine Lv (by assumption) ?_ ?_); · first | exact Nat.le_refl _ | omega | (dsimp only; omega) | (simp only [World.size_alloc, World.size_drew, World.heap_drewN]; omega) | (simp; omega)))))
        have hv2 := HO2.out.lt
        have hz3 := hB2.out.size
        clear b0 b1 b2 b3 b4 b5 b6 d1 hb2
        go_upto_region 9 with (at_builtin; refine wpList_append_lies _ rfl (.tmp 20) (.tmp 25) 55 rfl w1.heap.size 49 i0 (.agg #[.int .i64 0, .int .i64 0]) 2 16 sps_under hi hz0 hz1 hz2 rfl (by decide) u5 k (rowC spC r.sp k) rfl (HO2.out.alloc _) ⟨w2.heap.size, 0, none⟩ 1 1 (spC (r.sp k)) rfl rfl (new_cells (cs := spC (r.sp k))) (spC_one (r.sp k)) (by omega) (by unfold maxLen; omega) (by omega) (by simp; omega) (w2.heap.size + 1) (by simp) ?_; intro g cap w6 hown6 hgr6 hat6 hlt6)
        have hB6 : Below w1.heap.size wo w6 := Below.grown ((hB2.out.mono hsz).alloc (by omega) _) hgr6 (by simp; omega) (fun q hq => (hv2 q hq).1)
        have HO6 : Hid (w6.ownsRow w1.heap.size 49 2 (.slice (some ⟨g, 0, none⟩) (k + 1) cap) (k + 1) (rowC spC r.sp (k + 1))) := Lib.hid hown6
        have HC6 := Lib.hid (cell_same (hB6.block _ (by omega)) HC.out)
        have HR6 := Lib.hid (HR.out.later (hB6.mono (by omega)))
        have HB6 := Lib.hid (HB.out.trans (hB6.mono (by omega)))
        have hz6 : w1.heap.size ≤ w6.heap.size := Nat.le_trans hsz hB6.size
        clear hown6 hgr6 hat6 hlt6 hB6 HO2 hv2 hB2
        go_wp2_with fail
        go_roundw
        case rel => exact ⟨k + 1, by omega, by go_num, HO6, HC6, HR6, HB6, hz6⟩
        case measure => simp [intOf]; omega
      · obtain rfl : k = r.n := by omega
        have hge : ¬ (r.n : Int) < (r.n : Int) := by omega
        go_wp2_with fail
        go_ret2
        exact .inl ⟨HE.out, _, rfl, owns_low (by omega) HO.out, HB.out⟩
  · have hne : (r.check != 0) = true := by simpa using h0
    have HE := Lib.hid h0
    clear h0 hb1
    go_wp2_with fail
    go_ret2
    exact .inr ⟨HE.out, rfl, HB1.out⟩
end Go.Proofs.YtnnikeolgknfoaaGreat
