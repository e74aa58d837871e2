/- bin.Until. UNDER WAY. -/
import Derived.Test.YtnnikeolgknfoaaGreatBv
set_option linter.unusedSimpArgs false
set_option linter.unusedVariables false
namespace Go.Proofs.YtnnikeolgknfoaaGreat
open Go.RowKit Go.Shelf

/-- the first day, of so many, on which it is more -/
def untilN (z y mo : Int) : Nat → Option Nat
  | 0 => none
  | k + 1 => match untilN z y mo k with
    | some n => some n
    | none => if mo < z + k * y then some k else none
theorem untilN_some {z y mo : Int} {k n : Nat} (h : untilN z y mo k = some n) : ∀ d, untilN z y mo (k + d) = some n
  | 0 => h
  | d + 1 => by
    rw [← Nat.add_assoc]
    unfold untilN
    rw [untilN_some h d]
def untilR (z y mo : Int) : Int := match untilN z y mo 101 with
  | some n => n
  | none => -1
/-- the boxes of Until's closure -/
structure UnAt (w : World) (B xb bb rb kb mb db : Nat) (r : Rw) (S : Sk) (b : Nat) (K : Nat) (mo : Int) (bA : Option Addr) (bc dc : Nat) (dA : Option Addr) (vA : Option Addr) (vc : Nat) : Prop where
  cd : w.cell? ⟨xb, 0, none⟩ = some (.pointer (some ⟨db, 0, none⟩))
  cb : w.cell? ⟨bb, 0, none⟩ = some (.int .i64 b)
  cr : w.cell? ⟨rb, 0, none⟩ = some (.slice bA r.n bc)
  ck : w.cell? ⟨kb, 0, none⟩ = some (.int .i64 K)
  cm : w.cell? ⟨mb, 0, none⟩ = some (.int .i64 mo)
  l : LsAt w db r.n S.L
  lt : db < w.heap.size
  row : RwRow w B r bA bc dA dc vA vc
theorem UnAt.later {w w' : World} {B xb bb rb kb mb db : Nat} {r : Rw} {S : Sk} {b K : Nat} {mo : Int} {bA : Option Addr} {bc dc : Nat} {dA vA : Option Addr} {vc : Nat} (h : UnAt w B xb bb rb kb mb db r S b K mo bA bc dc dA vA vc) (hb : Below w.heap.size w w') : UnAt w' B xb bb rb kb mb db r S b K mo bA bc dc dA vA vc :=
  ⟨Kb hb h.cd, Kb hb h.cb, Kb hb h.cr, Kb hb h.ck, Kb hb h.cm, h.l.same (hb.block db h.lt), Nat.lt_of_lt_of_le h.lt hb.size, h.row.later (hb.mono h.row.lt)⟩

set_option maxRecDepth 100000 in
set_option maxHeartbeats 4000000 in
theorem until1_any (g : Nat) (E : Sp → Int) (hE : EndOk g E) (B xb bb rb kb mb db : Nat) (r : Rw) (hr : r.ok) (S : Sk) (hL : LBd S.L r.n) (b K : Nat) (hb : b < r.n) (hK : K < 3) (mo : Int) (hmo : 0 ≤ mo ∧ mo ≤ 3000) (bA dA vA : Option Addr) (bc dc vc : Nat) (W : World) (h : UnAt W B xb bb rb kb mb db r S b K mo bA bc dc dA vA vc) :
    Calls Tryz.prog 91 #[.agg #[.func (.func g) #[] #[]], .pointer (some ⟨xb, 0, none⟩), .pointer (some ⟨bb, 0, none⟩), .pointer (some ⟨rb, 0, none⟩), .pointer (some ⟨kb, 0, none⟩), .pointer (some ⟨mb, 0, none⟩)] W fun e W' => e = .returned (.int .i64 (untilR (E ⟨-S.L (b + 1) b, S.L b (b + 1)⟩) (E ⟨(r.B b).lo K, (r.B b).hi K⟩) mo)) ∧ Below W.heap.size W W' := by
  have HU := Lib.hid h
  have hn6 := hr.n6
  have b1 := hL (b + 1) b (by omega) (by omega)
  have b2 := hL b (b + 1) (by omega) (by omega)
  have hg := (hr.b b hb).g K hK
  obtain ⟨z, hz⟩ : ∃ z, z = E ⟨-S.L (b + 1) b, S.L b (b + 1)⟩ := ⟨_, rfl⟩
  obtain ⟨y, hy⟩ : ∃ y, y = E ⟨(r.B b).lo K, (r.B b).hi K⟩ := ⟨_, rfl⟩
  have hzb : -2100 ≤ z ∧ z ≤ 2100 := by
    have := hE.2.2 ⟨-S.L (b + 1) b, S.L b (b + 1)⟩
    dsimp only at this
    omega
  have hyb : 0 ≤ y ∧ y ≤ 50 := by
    have := hE.2.2 ⟨(r.B b).lo K, (r.B b).hi K⟩
    dsimp only at this
    omega
  have HSP : Hid (∀ w, LsAt w db r.n S.L → Calls Tryz.prog 92 #[.pointer (some ⟨db, 0, none⟩), .int .i64 b, .int .i64 b] w fun e W' => e = .returned (.agg #[.int .i64 (-S.L (b + 1) b), .int .i64 (S.L b (b + 1))]) ∧ Below w.heap.size w W') := Lib.hid (fun w hl => dspan_any r hn6 S b b hb hb (by omega) db w hl)
  have HZ : Hid (∀ w, Calls Tryz.prog g #[.agg #[.int .i64 (-S.L (b + 1) b), .int .i64 (S.L b (b + 1))]] w fun e W' => e = .returned (.int .i64 z) ∧ Below w.heap.size w W') := Lib.hid (fun w => by rw [hz]; exact hE.1 _ w)
  have HY : Hid (∀ w, Calls Tryz.prog g #[.agg #[.int .i64 ((r.B b).lo K), .int .i64 ((r.B b).hi K)]] w fun e W' => e = .returned (.int .i64 y) ∧ Below w.heap.size w W') := Lib.hid (fun w => by rw [hy]; exact hE.1 _ w)
  have hcf := hE.2.1
  rw [← hz, ← hy]
  clear hz hy hg hE h b1 b2 hL hr
  have hk3 : K = 0 ∨ K = 1 ∨ K = 2 := by omega
  go_enter Tryz.func91, Tryz.ntmps91
  go_upto_region 1 with fail
  refine wp_world (fun W1 => W1.cell? ⟨W.heap.size, 0, none⟩ = some (.func (.func g) #[] #[]) ∧ Below W.heap.size W W1 ∧ W.heap.size + 1 ≤ W1.heap.size) ⟨(by (repeat' refine And.intro ?_ ?_) <;> (repeat (first | with_reducible assumption | (simp; done) | (with_reducible first | refine Kd ?_ | refine Kn ?_ | refine Kb (by assumption) ?_) | ((with_reducible first | refine Kw ?_ ?_ | refine Fw ?_) <;> first | with_reducible rfl | (simp; done)) | (with_reducible first | refine Ka _ ?_ | refine Ks _ (by first | exact Nat.le_refl _ | omega | (simp; done) | (simp; omega)) ?_ | refine Fd ?_ | refine Fn ?_ | refine Fb (by assumption) (by first | exact Nat.le_refl _ | omega | (simp; done) | (simp; omega)) ?_ | refine Fa _ (by first | exact Nat.le_refl _ | omega | (simp; done) | (simp; omega)) ?_ | refine Fs _ ?_)))), (by repeat (first | (with_reducible first | exact Below.refl _ _ | assumption | refine Below.drew ?_) | ((with_reducible first | refine Lc ?_ ?_ _ | refine Ls ?_ ?_ _ | refine Lv (by assumption) ?_ ?_); · first | exact Nat.le_refl _ | omega | (dsimp only; omega) | (simp only [World.size_alloc, World.size_drew, World.heap_drewN]; omega) | (simp; omega)))), by simp⟩ ?_
  rintro w1 ⟨c0, hb1, hs1⟩
  have HU1 := Lib.hid (HU.out.later hb1)
  have HC := Lib.hid c0
  have HB := Lib.hid hb1
  clear hb1 c0 HU
  go_wp2_with fail
  go_loopw [9] (fun i wr => ∃ k : Nat, k ≤ 101 ∧ i = .int .i64 k ∧ Hid (untilN z y mo k = none) ∧ Hid (wr.cell? ⟨W.heap.size, 0, none⟩ = some (.func (.func g) #[] #[])) ∧ Hid (UnAt wr B xb bb rb kb mb db r S b K mo bA bc dc dA vA vc) ∧ Hid (Below W.heap.size W wr)) (fun i _ => 101 - (intOf i).toNat)
  case atStart => exact ⟨0, by omega, rfl, Lib.hid rfl, HC, HU1, HB⟩
  case round =>
    clear HC HU1 HB
    obtain ⟨k, hk, rfl, HN, HC, HU, HB⟩ := hrel
    by_cases hlt : k < 101
    · have hkn : (k : Int) < 101 := by omega
      have hky1 : 0 ≤ (k : Int) * y := Int.mul_nonneg (by omega) hyb.1
      have hky2 : (k : Int) * y ≤ 101 * 50 := Int.mul_le_mul (by omega) hyb.2 hyb.1 (by omega)
      have e1 : IntKind.i64.wrap ((k : Int) * y) = (k : Int) * y := IntWalk.i64_in _ (by omega)
      have e2 : IntKind.i64.wrap (z + (k : Int) * y) = z + (k : Int) * y := IntWalk.i64_in _ (by omega)
      have e3 : IntKind.i64.wrap ((k : Int) + 1) = (k : Int) + 1 := IntWalk.i64_in _ (by omega)
      have hbn : (b : Int) < (r.n : Int) := by omega
      have hb0 : (0 : Int) ≤ (b : Int) := by omega
      obtain ⟨wo, rfl⟩ : ∃ wo, wo = wr := ⟨_, rfl⟩
      obtain ⟨b', o, rfl, hb', d0, d1, d2, d3, d4, d5, d6⟩ := HU.out.row.b b hb
      have HS : Hid (untilN z y mo (k + 1) = if mo < z + k * y then some k else none) := Lib.hid (by show (match untilN z y mo k with | some n => some n | none => _) = _; rw [HN.out])
      by_cases hmore : mo < z + (k : Int) * y
      all_goals
        rcases hk3 with rfl | rfl | rfl
      all_goals
        go_upto_region 4 with fail
        have x0 := cell_regrown HU.out.cd
        have x1 := cell_regrown HU.out.cb
        have x2 := cell_regrown HU.out.cr
        have x3 := cell_regrown HU.out.ck
        have x4 := cell_regrown HU.out.cm
        have x5 := cell_regrown HC.out
        have y0 := cell_regrown d0
        have y1 := cell_regrown d1
        have y2 := cell_regrown d2
        have y3 := cell_regrown d3
        have y4 := cell_regrown d4
        have y5 := cell_regrown d5
        refine region_qbw (by kernel_rfl) (by kernel_rfl) ?_
        clear d0 d1 d2 d3 d4 d5 d6
        repeat (first | go_big_quiet_step (first | (go_at_call 92; exact Calls.regrown_of (HSP.out _ (HU.out.later (below_regrown _ _ _)).l)) | exact Calls.regrown_of (HZ.out _) | exact Calls.regrown_of (HY.out _)) | quiet_step (first | (go_at_call 92; exact Calls.regrown_of (HSP.out _ (HU.out.later (below_regrown _ _ _)).l)) | exact Calls.regrown_of (HZ.out _) | exact Calls.regrown_of (HY.out _)))
        refine wpQuiet_nil ?_; intro wq hbq
        have HB2 := Lib.hid (HB.out.trans (hbq.mono HB.out.size))
        have HC2 := Lib.hid (Kb hbq HC.out)
        have HU2 := Lib.hid (HU.out.later hbq)
        clear x0 x1 x2 x3 x4 x5 y0 y1 y2 y3 y4 y5 hbq HB HC HU
        go_wp2_with fail
        first
        | (have HV : Hid (untilR z y mo = (k : Int)) := Lib.hid (by
            have h1 : untilN z y mo (k + 1) = some k := by rw [HS.out, if_pos hmore]
            have h2 := untilN_some h1 (101 - (k + 1))
            rw [show k + 1 + (101 - (k + 1)) = 101 by omega] at h2
            unfold untilR
            rw [h2])
           go_ret
           exact ⟨by rw [HV.out]; rfl, HB2.out⟩)
        | (refine ⟨?_, ?measure⟩
           case measure => simp [intOf]; omega
           exact ⟨k + 1, by omega, by go_num, Lib.hid (by rw [HS.out, if_neg hmore]), HC2, HU2, HB2⟩)
    · obtain rfl : k = 101 := by omega
      have HV : Hid (untilR z y mo = -1) := Lib.hid (by unfold untilR; rw [HN.out])
      go_wp2_with fail
      go_ret
      exact ⟨by rw [HV.out]; rfl, HB.out⟩
end Go.Proofs.YtnnikeolgknfoaaGreat
