/- bin.clashes, bin.lowest. -/
import Derived.Test.YtnnikeolgknfoaaGreatBl
set_option linter.unusedSimpArgs false
set_option linter.unusedVariables false
namespace Go.Proofs.YtnnikeolgknfoaaGreat
open Go.RowKit Go.Shelf

set_option maxRecDepth 100000 in
set_option maxHeartbeats 4000000 in
theorem clashes_any (r : Rw) (bA dA vA : Option Addr) (bc dc vc : Nat) (W : World) (hrow : RwRow W W.heap.size r bA bc dA dc vA vc) :
    Calls Tryz.prog 71 #[rwV bA r.n bc dA r.d dc vA r.m vc] W fun e W' => e = .returned (.bool (r.fitErr == 7)) ∧ Below W.heap.size W W' := by
  have H0 := Lib.hid hrow
  clear hrow
  go_enter Tryz.func71, Tryz.ntmps71
  go_wp2_with fail
  refine (fitting_any r bA dA vA bc dc vc _ ((H0.out.later (by repeat (first | (with_reducible first | exact Below.refl _ _ | assumption | refine Below.drew ?_) | ((with_reducible first | refine Lc ?_ ?_ _ | refine Ls ?_ ?_ _ | refine Lv (by assumption) ?_ ?_); · first | exact Nat.le_refl _ | omega | (dsimp only; omega) | (simp only [World.size_alloc, World.size_drew, World.heap_drewN]; omega) | (simp; omega))))).up (by first | exact Nat.le_refl _ | omega | (simp; done) | (simp; omega) | (simp at *; omega)) (by first | exact Nat.le_refl _ | omega | (simp; done) | (simp; omega) | (simp at *; omega)))).mono ?_
  rintro e w1 (⟨h0, db, A, c, rfl, hdb, hd, ho, hb1⟩ | ⟨h0, rfl, hb1⟩)
  · have HB1 := Lib.hid (show Below W.heap.size W w1 from (by repeat (first | (with_reducible first | exact Below.refl _ _ | refine Below.drew ?_ | refine below_drewN ?_ _) | ((with_reducible first | refine Lc ?_ ?_ _ | refine Ls ?_ ?_ _ | refine Lv (by assumption) ?_ ?_); · first | exact Nat.le_refl _ | omega | (simp; done) | (simp; omega) | (simp at *; omega)))))
    have HE := Lib.hid h0
    clear h0 hd ho hb1
    go_wp2_with fail
    go_ret
    exact ⟨by rw [HE.out]; rfl, HB1.out⟩
  · have HB1 := Lib.hid (show Below W.heap.size W w1 from (by repeat (first | (with_reducible first | exact Below.refl _ _ | refine Below.drew ?_ | refine below_drewN ?_ _) | ((with_reducible first | refine Lc ?_ ?_ _ | refine Ls ?_ ?_ _ | refine Lv (by assumption) ?_ ?_); · first | exact Nat.le_refl _ | omega | (simp; done) | (simp; omega) | (simp at *; omega)))))
    clear h0 hb1
    go_wp2_with fail
    go_ret
    exact ⟨rfl, HB1.out⟩

/-- the greatest number that divides both, as the loop finds it -/
def gcdN : Nat → Nat → Nat → Nat
  | 0, a, _ => a
  | k + 1, a, b => if b = 0 then a else gcdN k b (a % b)
theorem gcdN_mod : ∀ (k a b : Nat), b < k → gcdN (k + 1) a b = Nat.gcd b a
  | 0, a, b, h => absurd h (by omega)
  | k + 1, a, b, h => by
    unfold gcdN
    by_cases hb : b = 0
    · subst hb
      rw [if_pos rfl, Nat.gcd_zero_left]
    · rw [if_neg hb]
      have hm : a % b < b := Nat.mod_lt _ (by omega)
      rw [gcdN_mod k b (a % b) (by omega), Nat.gcd_rec b a]
set_option maxRecDepth 100000 in
set_option maxHeartbeats 4000000 in
theorem lowest_any (n by_ : Nat) (hn : n ≤ 1000000) (hb : 0 < by_) (hb2 : by_ ≤ 1000000) (W : World) :
    Calls Tryz.prog 87 #[.int .i64 n, .int .i64 by_] W fun e W' => e = .returned (.agg #[.int .i64 ((n / Nat.gcd n by_ : Nat) : Int), .int .i64 ((by_ / Nat.gcd n by_ : Nat) : Int)]) ∧ Below W.heap.size W W' := by
  go_enter Tryz.func87, Tryz.ntmps87
  go_wp2_with fail
  go_loopw [5, 6] (fun va vb wr => ∃ a b : Nat, a ≤ 1000000 ∧ b ≤ 1000000 ∧ va = .int .i64 a ∧ vb = .int .i64 b ∧ Nat.gcd a b = Nat.gcd n by_ ∧ wr.cell? ⟨W.heap.size, 0, none⟩ = some (.int .i64 0) ∧ wr.cell? ⟨W.heap.size, 1, none⟩ = some (.int .i64 0) ∧ wr.frozen? ⟨W.heap.size, 0, none⟩ = false ∧ wr.frozen? ⟨W.heap.size, 1, none⟩ = false ∧ Hid (Below W.heap.size W wr)) (fun _ vb _ => (intOf vb).toNat)
  case atStart => exact ⟨n, by_, hn, hb2, rfl, rfl, rfl, (by (repeat' refine And.intro ?_ ?_) <;> (repeat (first | with_reducible assumption | (simp; done) | (with_reducible first | refine Kd ?_ | refine Kn ?_ | refine Kb (by assumption) ?_) | ((with_reducible first | refine Kw ?_ ?_ | refine Fw ?_) <;> first | with_reducible rfl | (simp; done)) | (with_reducible first | refine Ka _ ?_ | refine Ks _ (by first | exact Nat.le_refl _ | omega | (simp; done) | (simp; omega)) ?_ | refine Fd ?_ | refine Fn ?_ | refine Fb (by assumption) (by first | exact Nat.le_refl _ | omega | (simp; done) | (simp; omega)) ?_ | refine Fa _ (by first | exact Nat.le_refl _ | omega | (simp; done) | (simp; omega)) ?_ | refine Fs _ ?_)))), (by (repeat' refine And.intro ?_ ?_) <;> (repeat (first | with_reducible assumption | (simp; done) | (with_reducible first | refine Kd ?_ | refine Kn ?_ | refine Kb (by assumption) ?_) | ((with_reducible first | refine Kw ?_ ?_ | refine Fw ?_) <;> first | with_reducible rfl | (simp; done)) | (with_reducible first | refine Ka _ ?_ | refine Ks _ (by first | exact Nat.le_refl _ | omega | (simp; done) | (simp; omega)) ?_ | refine Fd ?_ | refine Fn ?_ | refine Fb (by assumption) (by first | exact Nat.le_refl _ | omega | (simp; done) | (simp; omega)) ?_ | refine Fa _ (by first | exact Nat.le_refl _ | omega | (simp; done) | (simp; omega)) ?_ | refine Fs _ ?_)))), (by (repeat' refine And.intro ?_ ?_) <;> (repeat (first | with_reducible assumption | (simp; done) | (with_reducible first | refine Kd ?_ | refine Kn ?_ | refine Kb (by assumption) ?_) | ((with_reducible first | refine Kw ?_ ?_ | refine Fw ?_) <;> first | with_reducible rfl | (simp; done)) | (with_reducible first | refine Ka _ ?_ | refine Ks _ (by first | exact Nat.le_refl _ | omega | (simp; done) | (simp; omega)) ?_ | refine Fd ?_ | refine Fn ?_ | refine Fb (by assumption) (by first | exact Nat.le_refl _ | omega | (simp; done) | (simp; omega)) ?_ | refine Fa _ (by first | exact Nat.le_refl _ | omega | (simp; done) | (simp; omega)) ?_ | refine Fs _ ?_)))), (by (repeat' refine And.intro ?_ ?_) <;> (repeat (first | with_reducible assumption | (simp; done) | (with_reducible first | refine Kd ?_ | refine Kn ?_ | refine Kb (by assumption) ?_) | ((with_reducible first | refine Kw ?_ ?_ | refine Fw ?_) <;> first | with_reducible rfl | (simp; done)) | (with_reducible first | refine Ka _ ?_ | refine Ks _ (by first | exact Nat.le_refl _ | omega | (simp; done) | (simp; omega)) ?_ | refine Fd ?_ | refine Fn ?_ | refine Fb (by assumption) (by first | exact Nat.le_refl _ | omega | (simp; done) | (simp; omega)) ?_ | refine Fa _ (by first | exact Nat.le_refl _ | omega | (simp; done) | (simp; omega)) ?_ | refine Fs _ ?_)))), Lib.hid (by repeat (first | (with_reducible first | exact Below.refl _ _ | assumption | refine Below.drew ?_) | ((with_reducible first | refine Lc ?_ ?_ _ | refine Ls ?_ ?_ _ | refine Lv (by assumption) ?_ ?_); · first | exact Nat.le_refl _ | omega | (dsimp only; omega) | (simp only [World.size_alloc, World.size_drew, World.heap_drewN]; omega) | (simp; omega))))⟩
  case round =>
    obtain ⟨a, b, ha, hb', rfl, rfl, hg, c0, c1, f0, f1, HB⟩ := hrel
    have HG := Lib.hid hg
    clear hg
    by_cases hpos : 0 < b
    · have hp : (0 : Int) < (b : Int) := by omega
      have hne : (b : Int) ≠ 0 := by omega
      have em : ((a : Int).tmod (b : Int)) = ((a % b : Nat) : Int) := rfl
      have ew : IntKind.i64.wrap ((a % b : Nat) : Int) = ((a % b : Nat) : Int) := IntWalk.i64_in _ (by have := Nat.mod_lt a hpos; omega)
      have hlt : a % b < b := Nat.mod_lt a hpos
      have HG2 := Lib.hid (show Nat.gcd b (a % b) = Nat.gcd n by_ from by rw [← HG.out, Nat.gcd_comm a b, Nat.gcd_rec b a, Nat.gcd_comm])
      obtain ⟨m, hm⟩ : ∃ m, m = a % b := ⟨_, rfl⟩
      rw [← hm] at em ew hlt HG2
      clear hm
      go_wp2_with fail
      refine region_qbw (by kernel_rfl) (by kernel_rfl) ?_
      repeat (first | go_big_quiet_step (fail) | quiet_step (fail))
      refine wpQuiet_nil ?_; intro wq hbq
      have d0 := Kb hbq c0
      have d1 := Kb hbq c1
      have g0 := fro_below_cell hbq c0 f0
      have g1 := fro_below_cell hbq c1 f1
      have HB2 := Lib.hid (HB.out.trans (hbq.mono HB.out.size))
      clear c0 c1 f0 f1 hbq
      go_wp2_with fail
      refine ⟨?_, ?measure⟩
      case measure => simp [intOf]; omega
      exact ⟨b, m, by omega, by omega, rfl, rfl, HG2.out, d0, d1, g0, g1, HB2⟩
    · obtain rfl : b = 0 := by omega
      have hp : ¬ (0 : Int) < ((0 : Nat) : Int) := by omega
      have hga : a = Nat.gcd n by_ := by rw [← HG.out, Nat.gcd_zero_right]
      have hapos : 0 < a := by rw [hga]; exact Nat.gcd_pos_of_pos_right _ hb
      have hne : (a : Int) ≠ 0 := by omega
      have HGA := Lib.hid hga
      have hp1 := Nat.div_le_self n a
      have hq1 := Nat.div_le_self by_ a
      obtain ⟨p, hpp⟩ : ∃ p, p = n / a := ⟨_, rfl⟩
      obtain ⟨q, hqq⟩ : ∃ q, q = by_ / a := ⟨_, rfl⟩
      have e1 : ((n : Int).tdiv (a : Int)) = (p : Int) := by rw [hpp]; rfl
      have e2 : ((by_ : Int).tdiv (a : Int)) = (q : Int) := by rw [hqq]; rfl
      rw [← hpp] at hp1
      rw [← hqq] at hq1
      have w1 : IntKind.i64.wrap (p : Int) = (p : Int) := IntWalk.i64_in _ (by omega)
      have w2 : IntKind.i64.wrap (q : Int) = (q : Int) := IntWalk.i64_in _ (by omega)
      have HP := Lib.hid hpp
      have HQ := Lib.hid hqq
      clear hga hpp hqq
      go_wp2_with fail
      go_region
      all_goals
        go_wp2_with fail
        exact bodyPost_ret (v := .agg #[.int .i64 (p : Int), .int .i64 (q : Int)]) (by simp [results, Tryz.results87, go_sem, c0, c1]) rfl ⟨by rw [HP.out, HQ.out, HGA.out], by have h := HB.out; repeat (first | (with_reducible first | exact Below.refl _ _ | assumption | refine Below.drew ?_) | ((with_reducible first | refine Lc ?_ ?_ _ | refine Ls ?_ ?_ _ | refine Lv (by assumption) ?_ ?_); · first | exact Nat.le_refl _ | omega | (dsimp only; omega) | (simp only [World.size_alloc, World.size_drew, World.heap_drewN]; omega) | (simp; omega)))⟩
end Go.Proofs.YtnnikeolgknfoaaGreat
