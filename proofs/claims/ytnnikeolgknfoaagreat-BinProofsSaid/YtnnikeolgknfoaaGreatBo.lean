/- desk.known, desk.follow. -/
import Derived.Test.YtnnikeolgknfoaaGreatBn
set_option linter.unusedSimpArgs false
set_option linter.unusedVariables false
namespace Go.Proofs.YtnnikeolgknfoaaGreat
open Go.RowKit Go.Shelf

/-- a fact of the row -/
def Rw.knows (r : Rw) (f : Fc) : Bool := if f.w then inB f.i 0 ((r.m : Int) - 1) else inB f.i 0 ((r.n : Int) - 1)
theorem Rw.knows_iff {r : Rw} {f : Fc} : r.knows f = true ↔ r.has f := by
  unfold Rw.knows Rw.has
  cases f.w
  · simp only [Bool.false_eq_true, if_false, inB_iff]; omega
  · simp only [if_true, inB_iff]; omega
set_option maxRecDepth 100000 in
set_option maxHeartbeats 4000000 in
theorem known1_any (r : Rw) (hn : r.n ≤ 1000) (hm : r.m ≤ 1000) (f : Fc) (pb db : Nat) (bA dA vA : Option Addr) (bc dc vc : Nat) (W : World) (hp : W.cell? ⟨pb, 0, none⟩ = some (.pointer (some ⟨db, 0, none⟩))) (hd : RwAt W db r bA bc dA dc vA vc) :
    Calls Tryz.prog 139 #[fcV f, .pointer (some ⟨pb, 0, none⟩)] W fun e W' => e = .returned (.bool (r.knows f)) ∧ Below W.heap.size W W' := by
  have c0 := hd.c0
  have c2 := hd.c2
  have hlt := hd.lt
  have hpl := World.block_lt_of_cell? W _ hp
  dsimp only at hpl
  have e1 : IntKind.i64.wrap ((r.n : Int) - 1) = (r.n : Int) - 1 := IntWalk.i64_in _ (by omega)
  have e2 : IntKind.i64.wrap ((r.m : Int) - 1) = (r.m : Int) - 1 := IntWalk.i64_in _ (by omega)
  clear hd
  obtain ⟨w, i, m⟩ := f
  cases w with
  | true =>
    have HF : Hid (r.knows ⟨true, i, m⟩ = inB i 0 ((r.m : Int) - 1)) := Lib.hid (by unfold Rw.knows; simp)
    cases h : inB i 0 ((r.m : Int) - 1) with
    | true =>
      have H := Lib.hid h
      have HIN : Hid (∀ w, Calls Tryz.prog 84 #[.int .i64 i, .int .i64 0, .int .i64 ((r.m : Int) - 1)] w fun e w' => e = .returned (.bool true) ∧ Below w.heap.size w w') := Lib.hid (fun w => (inBel i 0 ((r.m : Int) - 1) w).mono (fun e w' hh => ⟨by rw [hh.1, h], hh.2⟩))
      clear h
      go_enter Tryz.func139, Tryz.ntmps139
      go_upto_region 1 with fail
      refine wp_world (fun W1 => (W1.cell? ⟨W.heap.size, 0, none⟩ = some (.bool true) ∧ W1.cell? ⟨W.heap.size, 1, none⟩ = some (.int .i64 i) ∧ W1.cell? ⟨pb, 0, none⟩ = some (.pointer (some ⟨db, 0, none⟩)) ∧ W1.cell? ⟨db, 0, none⟩ = some (.slice bA r.n bc) ∧ W1.cell? ⟨db, 2, none⟩ = some (.slice vA r.m vc)) ∧ Below W.heap.size W W1) ⟨(by (repeat' refine And.intro ?_ ?_) <;> (repeat (first | with_reducible assumption | (simp; done) | (with_reducible first | refine Kd ?_ | refine Kn ?_ | refine Kb (by assumption) ?_) | ((with_reducible first | refine Kw ?_ ?_ | refine Fw ?_) <;> first | with_reducible rfl | (simp; done)) | (with_reducible first | refine Ka _ ?_ | refine Ks _ (by first | exact Nat.le_refl _ | omega | (simp; done) | (simp; omega)) ?_ | refine Fd ?_ | refine Fn ?_ | refine Fb (by assumption) (by first | exact Nat.le_refl _ | omega | (simp; done) | (simp; omega)) ?_ | refine Fa _ (by first | exact Nat.le_refl _ | omega | (simp; done) | (simp; omega)) ?_ | refine Fs _ ?_)))), (by repeat (first | (with_reducible first | exact Below.refl _ _ | assumption | refine Below.drew ?_) | ((with_reducible first | refine Lc ?_ ?_ _ | refine Ls ?_ ?_ _ | refine Lv (by assumption) ?_ ?_); · first | exact Nat.le_refl _ | omega | (dsimp only; omega) | (simp only [World.size_alloc, World.size_drew, World.heap_drewN]; omega) | (simp; omega))))⟩ ?_
      rintro W1 ⟨⟨a0, a1, a2, a3, a4⟩, hb1⟩
      have HB1 := Lib.hid hb1
      refine region_qbw (by kernel_rfl) (by kernel_rfl) ?_
      have x0 := cell_regrown a0
      have x1 := cell_regrown a1
      have x2 := cell_regrown a2
      have x3 := cell_regrown a3
      have x4 := cell_regrown a4
      clear hb1 a0 a1 a2 a3 a4 c0 c2 hp
      repeat (first | go_big_quiet_step ((go_at_call 84; exact Calls.regrown_of (HIN.out _))) | quiet_step ((go_at_call 84; exact Calls.regrown_of (HIN.out _))))
      refine wpQuiet_nil ?_; intro wq hbq
      have hyq := Lib.hid (HB1.out.trans (hbq.mono HB1.out.size))
      clear x0 x1 x2 x3 x4 hbq
      go_wp2_with fail
      go_ret
      exact ⟨by rw [HF.out, H.out]; rfl, hyq.out⟩
    | false =>
      have H := Lib.hid h
      have HIN : Hid (∀ w, Calls Tryz.prog 84 #[.int .i64 i, .int .i64 0, .int .i64 ((r.m : Int) - 1)] w fun e w' => e = .returned (.bool false) ∧ Below w.heap.size w w') := Lib.hid (fun w => (inBel i 0 ((r.m : Int) - 1) w).mono (fun e w' hh => ⟨by rw [hh.1, h], hh.2⟩))
      clear h
      go_enter Tryz.func139, Tryz.ntmps139
      go_upto_region 1 with fail
      refine wp_world (fun W1 => (W1.cell? ⟨W.heap.size, 0, none⟩ = some (.bool true) ∧ W1.cell? ⟨W.heap.size, 1, none⟩ = some (.int .i64 i) ∧ W1.cell? ⟨pb, 0, none⟩ = some (.pointer (some ⟨db, 0, none⟩)) ∧ W1.cell? ⟨db, 0, none⟩ = some (.slice bA r.n bc) ∧ W1.cell? ⟨db, 2, none⟩ = some (.slice vA r.m vc)) ∧ Below W.heap.size W W1) ⟨(by (repeat' refine And.intro ?_ ?_) <;> (repeat (first | with_reducible assumption | (simp; done) | (with_reducible first | refine Kd ?_ | refine Kn ?_ | refine Kb (by assumption) ?_) | ((with_reducible first | refine Kw ?_ ?_ | refine Fw ?_) <;> first | with_reducible rfl | (simp; done)) | (with_reducible first | refine Ka _ ?_ | refine Ks _ (by first | exact Nat.le_refl _ | omega | (simp; done) | (simp; omega)) ?_ | refine Fd ?_ | refine Fn ?_ | refine Fb (by assumption) (by first | exact Nat.le_refl _ | omega | (simp; done) | (simp; omega)) ?_ | refine Fa _ (by first | exact Nat.le_refl _ | omega | (simp; done) | (simp; omega)) ?_ | refine Fs _ ?_)))), (by repeat (first | (with_reducible first | exact Below.refl _ _ | assumption | refine Below.drew ?_) | ((with_reducible first | refine Lc ?_ ?_ _ | refine Ls ?_ ?_ _ | refine Lv (by assumption) ?_ ?_); · first | exact Nat.le_refl _ | omega | (dsimp only; omega) | (simp only [World.size_alloc, World.size_drew, World.heap_drewN]; omega) | (simp; omega))))⟩ ?_
      rintro W1 ⟨⟨a0, a1, a2, a3, a4⟩, hb1⟩
      have HB1 := Lib.hid hb1
      refine region_qbw (by kernel_rfl) (by kernel_rfl) ?_
      have x0 := cell_regrown a0
      have x1 := cell_regrown a1
      have x2 := cell_regrown a2
      have x3 := cell_regrown a3
      have x4 := cell_regrown a4
      clear hb1 a0 a1 a2 a3 a4 c0 c2 hp
      repeat (first | go_big_quiet_step ((go_at_call 84; exact Calls.regrown_of (HIN.out _))) | quiet_step ((go_at_call 84; exact Calls.regrown_of (HIN.out _))))
      refine wpQuiet_nil ?_; intro wq hbq
      have hyq := Lib.hid (HB1.out.trans (hbq.mono HB1.out.size))
      clear x0 x1 x2 x3 x4 hbq
      go_wp2_with fail
      go_ret
      exact ⟨by rw [HF.out, H.out]; rfl, hyq.out⟩
  | false =>
    have HF : Hid (r.knows ⟨false, i, m⟩ = inB i 0 ((r.n : Int) - 1)) := Lib.hid (by unfold Rw.knows; simp)
    cases h : inB i 0 ((r.n : Int) - 1) with
    | true =>
      have H := Lib.hid h
      have HIN : Hid (∀ w, Calls Tryz.prog 84 #[.int .i64 i, .int .i64 0, .int .i64 ((r.n : Int) - 1)] w fun e w' => e = .returned (.bool true) ∧ Below w.heap.size w w') := Lib.hid (fun w => (inBel i 0 ((r.n : Int) - 1) w).mono (fun e w' hh => ⟨by rw [hh.1, h], hh.2⟩))
      clear h
      go_enter Tryz.func139, Tryz.ntmps139
      go_upto_region 1 with fail
      refine wp_world (fun W1 => (W1.cell? ⟨W.heap.size, 0, none⟩ = some (.bool false) ∧ W1.cell? ⟨W.heap.size, 1, none⟩ = some (.int .i64 i) ∧ W1.cell? ⟨pb, 0, none⟩ = some (.pointer (some ⟨db, 0, none⟩)) ∧ W1.cell? ⟨db, 0, none⟩ = some (.slice bA r.n bc) ∧ W1.cell? ⟨db, 2, none⟩ = some (.slice vA r.m vc)) ∧ Below W.heap.size W W1) ⟨(by (repeat' refine And.intro ?_ ?_) <;> (repeat (first | with_reducible assumption | (simp; done) | (with_reducible first | refine Kd ?_ | refine Kn ?_ | refine Kb (by assumption) ?_) | ((with_reducible first | refine Kw ?_ ?_ | refine Fw ?_) <;> first | with_reducible rfl | (simp; done)) | (with_reducible first | refine Ka _ ?_ | refine Ks _ (by first | exact Nat.le_refl _ | omega | (simp; done) | (simp; omega)) ?_ | refine Fd ?_ | refine Fn ?_ | refine Fb (by assumption) (by first | exact Nat.le_refl _ | omega | (simp; done) | (simp; omega)) ?_ | refine Fa _ (by first | exact Nat.le_refl _ | omega | (simp; done) | (simp; omega)) ?_ | refine Fs _ ?_)))), (by repeat (first | (with_reducible first | exact Below.refl _ _ | assumption | refine Below.drew ?_) | ((with_reducible first | refine Lc ?_ ?_ _ | refine Ls ?_ ?_ _ | refine Lv (by assumption) ?_ ?_); · first | exact Nat.le_refl _ | omega | (dsimp only; omega) | (simp only [World.size_alloc, World.size_drew, World.heap_drewN]; omega) | (simp; omega))))⟩ ?_
      rintro W1 ⟨⟨a0, a1, a2, a3, a4⟩, hb1⟩
      have HB1 := Lib.hid hb1
      refine region_qbw (by kernel_rfl) (by kernel_rfl) ?_
      have x0 := cell_regrown a0
      have x1 := cell_regrown a1
      have x2 := cell_regrown a2
      have x3 := cell_regrown a3
      have x4 := cell_regrown a4
      clear hb1 a0 a1 a2 a3 a4 c0 c2 hp
      repeat (first | go_big_quiet_step ((go_at_call 84; exact Calls.regrown_of (HIN.out _))) | quiet_step ((go_at_call 84; exact Calls.regrown_of (HIN.out _))))
      refine wpQuiet_nil ?_; intro wq hbq
      have hyq := Lib.hid (HB1.out.trans (hbq.mono HB1.out.size))
      clear x0 x1 x2 x3 x4 hbq
      go_wp2_with fail
      go_ret
      exact ⟨by rw [HF.out, H.out]; rfl, hyq.out⟩
    | false =>
      have H := Lib.hid h
      have HIN : Hid (∀ w, Calls Tryz.prog 84 #[.int .i64 i, .int .i64 0, .int .i64 ((r.n : Int) - 1)] w fun e w' => e = .returned (.bool false) ∧ Below w.heap.size w w') := Lib.hid (fun w => (inBel i 0 ((r.n : Int) - 1) w).mono (fun e w' hh => ⟨by rw [hh.1, h], hh.2⟩))
      clear h
      go_enter Tryz.func139, Tryz.ntmps139
      go_upto_region 1 with fail
      refine wp_world (fun W1 => (W1.cell? ⟨W.heap.size, 0, none⟩ = some (.bool false) ∧ W1.cell? ⟨W.heap.size, 1, none⟩ = some (.int .i64 i) ∧ W1.cell? ⟨pb, 0, none⟩ = some (.pointer (some ⟨db, 0, none⟩)) ∧ W1.cell? ⟨db, 0, none⟩ = some (.slice bA r.n bc) ∧ W1.cell? ⟨db, 2, none⟩ = some (.slice vA r.m vc)) ∧ Below W.heap.size W W1) ⟨(by (repeat' refine And.intro ?_ ?_) <;> (repeat (first | with_reducible assumption | (simp; done) | (with_reducible first | refine Kd ?_ | refine Kn ?_ | refine Kb (by assumption) ?_) | ((with_reducible first | refine Kw ?_ ?_ | refine Fw ?_) <;> first | with_reducible rfl | (simp; done)) | (with_reducible first | refine Ka _ ?_ | refine Ks _ (by first | exact Nat.le_refl _ | omega | (simp; done) | (simp; omega)) ?_ | refine Fd ?_ | refine Fn ?_ | refine Fb (by assumption) (by first | exact Nat.le_refl _ | omega | (simp; done) | (simp; omega)) ?_ | refine Fa _ (by first | exact Nat.le_refl _ | omega | (simp; done) | (simp; omega)) ?_ | refine Fs _ ?_)))), (by repeat (first | (with_reducible first | exact Below.refl _ _ | assumption | refine Below.drew ?_) | ((with_reducible first | refine Lc ?_ ?_ _ | refine Ls ?_ ?_ _ | refine Lv (by assumption) ?_ ?_); · first | exact Nat.le_refl _ | omega | (dsimp only; omega) | (simp only [World.size_alloc, World.size_drew, World.heap_drewN]; omega) | (simp; omega))))⟩ ?_
      rintro W1 ⟨⟨a0, a1, a2, a3, a4⟩, hb1⟩
      have HB1 := Lib.hid hb1
      refine region_qbw (by kernel_rfl) (by kernel_rfl) ?_
      have x0 := cell_regrown a0
      have x1 := cell_regrown a1
      have x2 := cell_regrown a2
      have x3 := cell_regrown a3
      have x4 := cell_regrown a4
      clear hb1 a0 a1 a2 a3 a4 c0 c2 hp
      repeat (first | go_big_quiet_step ((go_at_call 84; exact Calls.regrown_of (HIN.out _))) | quiet_step ((go_at_call 84; exact Calls.regrown_of (HIN.out _))))
      refine wpQuiet_nil ?_; intro wq hbq
      have hyq := Lib.hid (HB1.out.trans (hbq.mono HB1.out.size))
      clear x0 x1 x2 x3 x4 hbq
      go_wp2_with fail
      go_ret
      exact ⟨by rw [HF.out, H.out]; rfl, hyq.out⟩

/-- the error of facts -/
def Rw.knownErr (r : Rw) (n : Nat) (P : Nat → Fc) : Int := if 20 < n then 3 else if allN (fun k => r.knows (P k)) n = false then 2 else 0
set_option maxRecDepth 100000 in
set_option maxHeartbeats 4000000 in
theorem known_any (r : Rw) (hn : r.n ≤ 1000) (hm : r.m ≤ 1000) (A : Option Addr) (n c : Nat) (P : Nat → Fc) (db : Nat) (bA dA vA : Option Addr) (bc dc vc : Nat) (W : World) (hd : RwAt W db r bA bc dA dc vA vc) (hP : FcRow W W.heap.size A n P) (hn63 : n ≤ 1000000000) :
    Calls Tryz.prog 104 #[.pointer (some ⟨db, 0, none⟩), .slice A n c] W fun e W' => e = .returned (.int .i64 (r.knownErr n P)) ∧ Below W.heap.size W W' := by
  have HD := Lib.hid hd
  have HP := Lib.hid hP
  have hlt := hd.lt
  clear hd hP
  by_cases h20 : 20 < n
  · have HF : Hid (r.knownErr n P = 3) := Lib.hid (by unfold Rw.knownErr; rw [if_pos h20])
    have h20' : (20 : Int) < (n : Int) := by omega
    go_enter Tryz.func104, Tryz.ntmps104
    go_wp2_with fail
    go_ret
    exact ⟨by rw [HF.out]; rfl, (by repeat (first | (with_reducible first | exact Below.refl _ _ | refine Below.drew ?_ | refine below_drewN ?_ _) | ((with_reducible first | refine Lc ?_ ?_ _ | refine Ls ?_ ?_ _ | refine Lv (by assumption) ?_ ?_); · first | exact Nat.le_refl _ | omega | (simp; done) | (simp; omega) | (simp at *; omega))))⟩
  · have hno : ¬ (20 : Int) < (n : Int) := by omega
    have hall : r.knownErr n P = if allN (fun k => r.knows (P k)) n = false then 2 else 0 := by unfold Rw.knownErr; rw [if_neg h20]
    cases h : allN (fun k => r.knows (P k)) n with
    | true =>
      have HF : Hid (r.knownErr n P = 0) := Lib.hid (by rw [hall, h, if_neg (by simp)])
      have H := Lib.hid h
      clear hall h
      go_enter Tryz.func104, Tryz.ntmps104
      go_wp2_with fail
      refine (every_fcC A n c P _ ((HP.out.below (by repeat (first | (with_reducible first | exact Below.refl _ _ | assumption | refine Below.drew ?_) | ((with_reducible first | refine Lc ?_ ?_ _ | refine Ls ?_ ?_ _ | refine Lv (by assumption) ?_ ?_); · first | exact Nat.le_refl _ | omega | (dsimp only; omega) | (simp only [World.size_alloc, World.size_drew, World.heap_drewN]; omega) | (simp; omega))))).mono (by first | exact Nat.le_refl _ | omega | (simp; done) | (simp; omega) | (simp at *; omega))) (by omega) 139 W.heap.size (fun k => r.knows (P k)) (enters_of Tryz.func139 (by kernel_rfl) rfl) (fun k hk w hb => known1_any r hn hm (P k) W.heap.size db bA dA vA bc dc vc w (Kb hb (by (repeat' refine And.intro ?_ ?_) <;> (repeat (first | with_reducible assumption | (simp; done) | (with_reducible first | refine Kd ?_ | refine Kn ?_ | refine Kb (by assumption) ?_) | ((with_reducible first | refine Kw ?_ ?_ | refine Fw ?_) <;> first | with_reducible rfl | (simp; done)) | (with_reducible first | refine Ka _ ?_ | refine Ks _ (by first | exact Nat.le_refl _ | omega | (simp; done) | (simp; omega)) ?_ | refine Fd ?_ | refine Fn ?_ | refine Fb (by assumption) (by first | exact Nat.le_refl _ | omega | (simp; done) | (simp; omega)) ?_ | refine Fa _ (by first | exact Nat.le_refl _ | omega | (simp; done) | (simp; omega)) ?_ | refine Fs _ ?_))))) ((HD.out.later (show Below W.heap.size W _ from (by repeat (first | (with_reducible first | exact Below.refl _ _ | assumption | refine Below.drew ?_) | ((with_reducible first | refine Lc ?_ ?_ _ | refine Ls ?_ ?_ _ | refine Lv (by assumption) ?_ ?_); · first | exact Nat.le_refl _ | omega | (dsimp only; omega) | (simp only [World.size_alloc, World.size_drew, World.heap_drewN]; omega) | (simp; omega)))))).later hb))).mono ?_
      rintro e w1 ⟨rfl, hb1⟩
      have HB1 := Lib.hid (show Below W.heap.size W w1 from (by repeat (first | (with_reducible first | exact Below.refl _ _ | refine Below.drew ?_ | refine below_drewN ?_ _) | ((with_reducible first | refine Lc ?_ ?_ _ | refine Ls ?_ ?_ _ | refine Lv (by assumption) ?_ ?_); · first | exact Nat.le_refl _ | omega | (simp; done) | (simp; omega) | (simp at *; omega)))))
      rw [H.out]
      clear hb1
      go_wp2_with fail
      go_ret
      exact ⟨by rw [HF.out]; rfl, HB1.out⟩
    | false =>
      have HF : Hid (r.knownErr n P = 2) := Lib.hid (by rw [hall, h, if_pos rfl])
      have H := Lib.hid h
      clear hall h
      go_enter Tryz.func104, Tryz.ntmps104
      go_wp2_with fail
      refine (every_fcC A n c P _ ((HP.out.below (by repeat (first | (with_reducible first | exact Below.refl _ _ | assumption | refine Below.drew ?_) | ((with_reducible first | refine Lc ?_ ?_ _ | refine Ls ?_ ?_ _ | refine Lv (by assumption) ?_ ?_); · first | exact Nat.le_refl _ | omega | (dsimp only; omega) | (simp only [World.size_alloc, World.size_drew, World.heap_drewN]; omega) | (simp; omega))))).mono (by first | exact Nat.le_refl _ | omega | (simp; done) | (simp; omega) | (simp at *; omega))) (by omega) 139 W.heap.size (fun k => r.knows (P k)) (enters_of Tryz.func139 (by kernel_rfl) rfl) (fun k hk w hb => known1_any r hn hm (P k) W.heap.size db bA dA vA bc dc vc w (Kb hb (by (repeat' refine And.intro ?_ ?_) <;> (repeat (first | with_reducible assumption | (simp; done) | (with_reducible first | refine Kd ?_ | refine Kn ?_ | refine Kb (by assumption) ?_) | ((with_reducible first | refine Kw ?_ ?_ | refine Fw ?_) <;> first | with_reducible rfl | (simp; done)) | (with_reducible first | refine Ka _ ?_ | refine Ks _ (by first | exact Nat.le_refl _ | omega | (simp; done) | (simp; omega)) ?_ | refine Fd ?_ | refine Fn ?_ | refine Fb (by assumption) (by first | exact Nat.le_refl _ | omega | (simp; done) | (simp; omega)) ?_ | refine Fa _ (by first | exact Nat.le_refl _ | omega | (simp; done) | (simp; omega)) ?_ | refine Fs _ ?_))))) ((HD.out.later (show Below W.heap.size W _ from (by repeat (first | (with_reducible first | exact Below.refl _ _ | assumption | refine Below.drew ?_) | ((with_reducible first | refine Lc ?_ ?_ _ | refine Ls ?_ ?_ _ | refine Lv (by assumption) ?_ ?_); · first | exact Nat.le_refl _ | omega | (dsimp only; omega) | (simp only [World.size_alloc, World.size_drew, World.heap_drewN]; omega) | (simp; omega)))))).later hb))).mono ?_
      rintro e w1 ⟨rfl, hb1⟩
      have HB1 := Lib.hid (show Below W.heap.size W w1 from (by repeat (first | (with_reducible first | exact Below.refl _ _ | refine Below.drew ?_ | refine below_drewN ?_ _) | ((with_reducible first | refine Lc ?_ ?_ _ | refine Ls ?_ ?_ _ | refine Lv (by assumption) ?_ ?_); · first | exact Nat.le_refl _ | omega | (simp; done) | (simp; omega) | (simp at *; omega)))))
      rw [H.out]
      clear hb1
      go_wp2_with fail
      go_ret
      exact ⟨by rw [HF.out]; rfl, HB1.out⟩

/-- a walk followed: from where, to where, its number -/
def Rw.fol (r : Rw) (P : Nat → Fc) : Nat → Option (Int × Int × Int)
  | 0 => some (0, 0, 0)
  | k + 1 => match r.fol P k with
    | none => none
    | some x => if r.from_ (P k) = (if k = 0 then r.from_ (P k) else x.2.1) then some (if k = 0 then r.from_ (P k) else x.1, r.to_ (P k), x.2.2 + r.num (P k)) else none
theorem Rw.fol_none {r : Rw} {P : Nat → Fc} {k : Nat} (h : r.fol P k = none) : ∀ d, r.fol P (k + d) = none
  | 0 => h
  | d + 1 => by
    rw [← Nat.add_assoc]
    unfold Rw.fol
    rw [Rw.fol_none h d]
def Rw.followR (r : Rw) (P : Nat → Fc) (n : Nat) : Int × Int × Int × Bool := match r.fol P n with
  | none => (0, 0, 0, false)
  | some x => (x.1, x.2.1, x.2.2, decide (0 < n))
set_option maxRecDepth 100000 in
set_option maxHeartbeats 4000000 in
theorem follow_any (r : Rw) (hr : r.ok) (A : Option Addr) (n c : Nat) (P : Nat → Fc) (B db : Nat) (bA dA vA : Option Addr) (bc dc vc : Nat) (W : World) (hd : DrAt W B db r bA bc dA dc vA vc) (hP : FcRow W W.heap.size A n P) (hn : n ≤ 20) (hh : ∀ k, k < n → r.has (P k)) :
    Calls Tryz.prog 105 #[.pointer (some ⟨db, 0, none⟩), .slice A n c] W fun e W' => e = .returned (.tuple #[.int .i64 (r.followR P n).1, .int .i64 (r.followR P n).2.1, .int .i64 (r.followR P n).2.2.1, .bool (r.followR P n).2.2.2]) ∧ Below W.heap.size W W' := by
  have HD := Lib.hid hd
  have HP := Lib.hid hP
  have HR := Lib.hid hr
  have HH := Lib.hid hh
  have hn6 := hr.n6
  clear hd hP hr hh
  go_enter Tryz.func105, Tryz.ntmps105
  go_wp2_with fail
  go_loopw [4, 5, 6, 15] (fun vf vt vs i wr => ∃ (k : Nat) (f t s : Int), k ≤ n ∧ i = .int .i64 k ∧ vf = .int .i64 f ∧ vt = .int .i64 t ∧ vs = .int .i64 s ∧ (-3100 * (k : Int) ≤ s ∧ s ≤ 3100 * (k : Int)) ∧ Hid (r.fol P k = some (f, t, s)) ∧ Hid (Below W.heap.size W wr)) (fun _ _ _ i _ => n - (intOf i).toNat)
  case atStart => exact ⟨0, 0, 0, 0, Nat.zero_le _, rfl, rfl, rfl, rfl, by omega, Lib.hid rfl, Lib.hid (Below.refl _ _)⟩
  case round =>
    obtain ⟨k, f, t, s, hk, rfl, rfl, rfl, rfl, hs, HF, HB⟩ := hrel
    by_cases hlt : k < n
    · have hkn : (k : Int) < (n : Int) := by omega
      have hk0 : (0 : Int) ≤ (k : Int) := by omega
      have ek : IntKind.i64.wrap ((k : Int) + 1) = (k : Int) + 1 := IntWalk.i64_in _ (by omega)
      obtain ⟨wo, rfl⟩ : ∃ wo, wo = wr := ⟨_, rfl⟩
      obtain ⟨b, o, hA, hb, b0, b1, b2⟩ := (HP.out.below HB.out) k hlt
      subst hA
      have hb' : b < wo.heap.size := Nat.lt_of_lt_of_le hb HB.out.size
      go_wp2_with fail
      refine (leads_any r HR.out (P k) (HH.out k hlt) B db bA dA vA bc dc vc _ (HD.out.later (HB.out.trans ((show Below wo.heap.size wo _ from (by repeat (first | (with_reducible first | exact Below.refl _ _ | assumption | refine Below.drew ?_) | ((with_reducible first | refine Lc ?_ ?_ _ | refine Ls ?_ ?_ _ | refine Lv (by assumption) ?_ ?_); · first | exact Nat.le_refl _ | omega | (dsimp only; omega) | (simp only [World.size_alloc, World.size_drew, World.heap_drewN]; omega) | (simp; omega))))).mono HB.out.size)))).mono ?_
      rintro e w2 ⟨rfl, hb2⟩
      have HB2 := Lib.hid (HB.out.trans ((show Below wo.heap.size wo w2 from (by repeat (first | (with_reducible first | exact Below.refl _ _ | assumption | refine Below.drew ?_) | ((with_reducible first | refine Lc ?_ ?_ _ | refine Ls ?_ ?_ _ | refine Lv (by assumption) ?_ ?_); · first | exact Nat.le_refl _ | omega | (dsimp only; omega) | (simp only [World.size_alloc, World.size_drew, World.heap_drewN]; omega) | (simp; omega))))).mono HB.out.size))
      obtain ⟨x, hx⟩ : ∃ x, x = r.from_ (P k) := ⟨_, rfl⟩
      obtain ⟨y, hy⟩ : ∃ y, y = r.to_ (P k) := ⟨_, rfl⟩
      obtain ⟨z, hz⟩ : ∃ z, z = r.num (P k) := ⟨_, rfl⟩
      have hbd := Rw.ab_bd HR.out (HH.out k hlt)
      have hld : ldV r (P k) = .tuple #[.int .i64 x, .int .i64 y, .int .i64 z] := by unfold ldV; rw [← hx, ← hy, ← hz]
      rw [hld]
      rw [← hz] at hbd
      have hz1 := hbd.2.2.2.1
      have hz2 := hbd.2.2.2.2.1
      have HX := Lib.hid hx
      have HY := Lib.hid hy
      have HZ := Lib.hid hz
      clear hx hy hz hld hbd hb2 b0 b1 b2 HB
      by_cases h0 : k = 0
      · subst h0
        have hxx : (x != x) = false := by simp
        have HF2 : Hid (r.fol P (0 + 1) = some (x, y, s + z)) := Lib.hid (by unfold Rw.fol; rw [HF.out, ← HX.out, ← HY.out, ← HZ.out]; simp)
        go_wp2_with fail
        refine (sum2n w2 2 _ s z (by omega) (by omega)).mono ?_
        rintro e w3 ⟨rfl, rfl⟩
        have HB3 := Lib.hid (HB2.out.alloc HB2.out.size (.cells #[.int .i64 s, .int .i64 z] 3))
        go_wp2_with fail
        go_roundw
        case rel => exact ⟨1, x, y, s + z, by omega, by simp, rfl, rfl, rfl, by omega, HF2, HB3⟩
        case measure => simp [intOf]; omega
      · have h0' : ((k : Int) == 0) = false := by simpa using h0
        by_cases hxt : x = t
        · have hxx : (x != t) = false := by simpa using hxt
          have HF2 : Hid (r.fol P (k + 1) = some (f, y, s + z)) := Lib.hid (by unfold Rw.fol; rw [HF.out, ← HX.out, ← HY.out, ← HZ.out]; simp [h0, hxt])
          clear hxt
          go_wp2_with fail
          refine (sum2n w2 2 _ s z (by omega) (by omega)).mono ?_
          rintro e w3 ⟨rfl, rfl⟩
          have HB3 := Lib.hid (HB2.out.alloc HB2.out.size (.cells #[.int .i64 s, .int .i64 z] 3))
          go_wp2_with fail
          go_roundw
          case rel => exact ⟨k + 1, f, y, s + z, by omega, by go_num, rfl, rfl, rfl, by omega, HF2, HB3⟩
          case measure => simp [intOf]; omega
        · have hxx : (x != t) = true := by simpa using hxt
          have HF2 : Hid (r.fol P (k + 1) = none) := Lib.hid (by unfold Rw.fol; rw [HF.out, ← HX.out]; simp [h0, hxt])
          have HV : Hid (r.followR P n = (0, 0, 0, false)) := Lib.hid (by
            have := Rw.fol_none HF2.out (n - (k + 1))
            rw [show k + 1 + (n - (k + 1)) = n by omega] at this
            unfold Rw.followR
            rw [this])
          clear hxt
          go_wp2_with fail
          exact bodyPost_ret (v := .tuple #[.int .i64 0, .int .i64 0, .int .i64 0, .bool false]) (by simp [results, Tryz.results105, go_sem]) rfl ⟨by rw [HV.out], HB2.out⟩
    · obtain rfl : k = n := by omega
      have hge : ¬ (k : Int) < (k : Int) := by omega
      have HV : Hid (r.followR P k = (f, t, s, decide (0 < k))) := Lib.hid (by unfold Rw.followR; rw [HF.out])
      by_cases h0 : 0 < k
      · have hpos : (0 : Int) < (k : Int) := by omega
        go_wp2_with fail
        exact bodyPost_ret (v := .tuple #[.int .i64 f, .int .i64 t, .int .i64 s, .bool true]) (by simp [results, Tryz.results105, go_sem]) rfl ⟨by rw [HV.out]; simp [h0], HB.out⟩
      · have hpos : ¬ (0 : Int) < (k : Int) := by omega
        go_wp2_with fail
        exact bodyPost_ret (v := .tuple #[.int .i64 f, .int .i64 t, .int .i64 s, .bool false]) (by simp [results, Tryz.results105, go_sem]) rfl ⟨by rw [HV.out]; simp [h0], HB.out⟩
end Go.Proofs.YtnnikeolgknfoaaGreat
