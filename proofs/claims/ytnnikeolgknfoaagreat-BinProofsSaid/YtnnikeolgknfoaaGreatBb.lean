/- bin.Check. -/
import Derived.Test.YtnnikeolgknfoaaGreatBa
set_option linter.unusedSimpArgs false
set_option linter.unusedVariables false
namespace Go.Proofs.YtnnikeolgknfoaaGreat
open Go.RowKit Go.Shelf

abbrev rwV (bA : Option Addr) (n bc : Nat) (dA : Option Addr) (d dc : Nat) (vA : Option Addr) (m vc : Nat) : Value := .agg #[.slice bA n bc, .slice dA d dc, .slice vA m vc]
/-- a row in memory -/
structure RwRow (w : World) (B : Nat) (r : Rw) (bA : Option Addr) (bc : Nat) (dA : Option Addr) (dc : Nat) (vA : Option Addr) (vc : Nat) : Prop where
  lt : B ≤ w.heap.size
  b : BnRow w B bA r.n r.B
  d : IntRow w B dA r.d r.D
  v : WgRow w B vA r.m r.V
  n1 : r.n ≤ 1000
  d1 : r.d ≤ 1000
  m1 : r.m ≤ 1000
  bc : r.n ≤ bc
  dc : r.d ≤ dc
  vc : r.m ≤ vc
theorem RwRow.later {w w' : World} {B : Nat} {r : Rw} {bA : Option Addr} {bc : Nat} {dA : Option Addr} {dc : Nat} {vA : Option Addr} {vc : Nat} (h : RwRow w B r bA bc dA dc vA vc) (hb : Below B w w') : RwRow w' B r bA bc dA dc vA vc :=
  ⟨Nat.le_trans h.lt hb.size, h.b.below hb, h.d.below hb, h.v.below hb, h.n1, h.d1, h.m1, h.bc, h.dc, h.vc⟩
theorem RwRow.up {w : World} {B B' : Nat} {r : Rw} {bA : Option Addr} {bc : Nat} {dA : Option Addr} {dc : Nat} {vA : Option Addr} {vc : Nat} (h : RwRow w B r bA bc dA dc vA vc) (h1 : B ≤ B') (h2 : B' ≤ w.heap.size) : RwRow w B' r bA bc dA dc vA vc :=
  ⟨h2, h.b.mono h1, h.d.mono h1, h.v.mono h1, h.n1, h.d1, h.m1, h.bc, h.dc, h.vc⟩
/-- a row's value boxed -/
structure RwAt (w : World) (b : Nat) (r : Rw) (bA : Option Addr) (bc : Nat) (dA : Option Addr) (dc : Nat) (vA : Option Addr) (vc : Nat) : Prop where
  c0 : w.cell? ⟨b, 0, none⟩ = some (.slice bA r.n bc)
  c1 : w.cell? ⟨b, 1, none⟩ = some (.slice dA r.d dc)
  c2 : w.cell? ⟨b, 2, none⟩ = some (.slice vA r.m vc)
theorem RwAt.same {w w' : World} {b : Nat} {r : Rw} {bA : Option Addr} {bc : Nat} {dA : Option Addr} {dc : Nat} {vA : Option Addr} {vc : Nat} (h : RwAt w b r bA bc dA dc vA vc) (hs : w'.heap[b]? = w.heap[b]?) : RwAt w' b r bA bc dA dc vA vc := ⟨cell_same hs h.c0, cell_same hs h.c1, cell_same hs h.c2⟩
theorem RwAt.lt {w : World} {b : Nat} {r : Rw} {bA : Option Addr} {bc : Nat} {dA : Option Addr} {dc : Nat} {vA : Option Addr} {vc : Nat} (h : RwAt w b r bA bc dA dc vA vc) : b < w.heap.size := World.block_lt_of_cell? w _ h.c0
theorem RwAt.later {w w' : World} {b : Nat} {r : Rw} {bA : Option Addr} {bc : Nat} {dA : Option Addr} {dc : Nat} {vA : Option Addr} {vc : Nat} (h : RwAt w b r bA bc dA dc vA vc) (hb : Below w.heap.size w w') : RwAt w' b r bA bc dA dc vA vc := h.same (hb.block _ h.lt)

set_option maxRecDepth 100000 in
set_option maxHeartbeats 1000000 in
theorem check1_any (x : Bn) (d dc rb : Nat) (dA : Option Addr) (W : World) (hc : W.cell? ⟨rb, 1, none⟩ = some (.slice dA d dc)) :
    Calls Tryz.prog 112 #[bnV x, .pointer (some ⟨rb, 0, none⟩)] W fun e W' => e = .returned (.bool (x.gets && inB x.s 0 d)) ∧ Below W.heap.size W W' := by
  have hl := World.block_lt_of_cell? W _ hc
  dsimp only at hl
  cases h : x.gets with
  | false =>
    go_enter Tryz.func112, Tryz.ntmps112
    go_wp2_with fail
    refine (gets_any x _).mono ?_
    rintro e w1 ⟨rfl, hb1⟩
    rw [h]
    go_wp2_with fail
    go_ret
    exact ⟨rfl, (by repeat (first | (with_reducible first | exact Below.refl _ _ | refine Below.drew ?_ | refine below_drewN ?_ _) | ((with_reducible first | refine Lc ?_ ?_ _ | refine Ls ?_ ?_ _ | refine Lv (by assumption) ?_ ?_); · first | exact Nat.le_refl _ | omega | (simp; done) | (simp; omega) | (simp at *; omega))))⟩
  | true =>
    go_enter Tryz.func112, Tryz.ntmps112
    go_wp2_with fail
    refine (gets_any x _).mono ?_
    rintro e w1 ⟨rfl, hb1⟩
    rw [h]
    obtain ⟨hc1, hf1⟩ := bcell hb1; have hz1 := hb1.size; (try simp only [World.size_drew, World.heap_drewN, World.size_alloc] at hz1)
    have d0 : w1.cell? ⟨rb, 1, none⟩ = some (.slice dA d dc) := (by repeat (first | with_reducible assumption | (simp; done) | (with_reducible first | refine Kd ?_ | refine Kn ?_ | refine Kb (by assumption) ?_) | ((with_reducible first | refine Kw ?_ ?_ | refine Fw ?_) <;> first | with_reducible rfl | (simp; done)) | (with_reducible first | refine Ka _ ?_ | refine Ks _ (by first | exact Nat.le_refl _ | omega | (simp; done) | (simp; omega) | (simp at *; omega)) ?_ | refine Fd ?_ | refine Fn ?_ | refine Fb (by assumption) (by first | exact Nat.le_refl _ | omega | (simp; done) | (simp; omega) | (simp at *; omega)) ?_ | refine Fa _ (by first | exact Nat.le_refl _ | omega | (simp; done) | (simp; omega) | (simp at *; omega)) ?_ | refine Fs _ ?_)))
    have d1 : w1.cell? ⟨W.heap.size, 6, none⟩ = some (.int .i64 x.s) := (by repeat (first | with_reducible assumption | (simp; done) | (with_reducible first | refine Kd ?_ | refine Kn ?_ | refine Kb (by assumption) ?_) | ((with_reducible first | refine Kw ?_ ?_ | refine Fw ?_) <;> first | with_reducible rfl | (simp; done)) | (with_reducible first | refine Ka _ ?_ | refine Ks _ (by first | exact Nat.le_refl _ | omega | (simp; done) | (simp; omega) | (simp at *; omega)) ?_ | refine Fd ?_ | refine Fn ?_ | refine Fb (by assumption) (by first | exact Nat.le_refl _ | omega | (simp; done) | (simp; omega) | (simp at *; omega)) ?_ | refine Fa _ (by first | exact Nat.le_refl _ | omega | (simp; done) | (simp; omega) | (simp at *; omega)) ?_ | refine Fs _ ?_)))
    clear hc1 hf1
    go_wp2_with (go_at_call 84; refine (in_any _ _ _ _).mono ?_; rintro e w' ⟨rfl, rfl⟩)
    go_ret
    exact ⟨rfl, (by repeat (first | (with_reducible first | exact Below.refl _ _ | refine Below.drew ?_ | refine below_drewN ?_ _) | ((with_reducible first | refine Lc ?_ ?_ _ | refine Ls ?_ ?_ _ | refine Lv (by assumption) ?_ ?_); · first | exact Nat.le_refl _ | omega | (simp; done) | (simp; omega) | (simp at *; omega))))⟩

set_option maxRecDepth 100000 in
set_option maxHeartbeats 1000000 in
theorem check2_any (x : Wg) (W : World) :
    Calls Tryz.prog 115 #[wgV x] W fun e W' => e = .returned (.bool (inB x.p 0 3000 && inB x.e 0 100)) ∧ Below W.heap.size W W' := by
  cases h : inB x.p 0 3000 <;>
  · go_enter Tryz.func115, Tryz.ntmps115
    go_wp2_with (go_at_call 84; refine (in_any _ _ _ _).mono ?_; rintro e w' ⟨rfl, rfl⟩)
    go_ret
    exact ⟨rfl, (by repeat (first | (with_reducible first | exact Below.refl _ _ | refine Below.drew ?_ | refine below_drewN ?_ _) | ((with_reducible first | refine Lc ?_ ?_ _ | refine Ls ?_ ?_ _ | refine Lv (by assumption) ?_ ?_); · first | exact Nat.le_refl _ | omega | (simp; done) | (simp; omega) | (simp at *; omega))))⟩

set_option maxRecDepth 100000 in
set_option maxHeartbeats 1000000 in
theorem check3_any (n : Int) (W : World) :
    Calls Tryz.prog 117 #[.int .i64 n] W fun e W' => e = .returned (.bool (inB n 0 2)) ∧ Below W.heap.size W W' := by
  go_enter Tryz.func117, Tryz.ntmps117
  go_wp2_with (go_at_call 84; refine (in_any _ _ _ _).mono ?_; rintro e w' ⟨rfl, rfl⟩)
  go_ret
  exact ⟨rfl, (by repeat (first | (with_reducible first | exact Below.refl _ _ | refine Below.drew ?_ | refine below_drewN ?_ _) | ((with_reducible first | refine Lc ?_ ?_ _ | refine Ls ?_ ?_ _ | refine Lv (by assumption) ?_ ?_); · first | exact Nat.le_refl _ | omega | (simp; done) | (simp; omega) | (simp at *; omega))))⟩

set_option maxRecDepth 100000 in
set_option maxHeartbeats 1000000 in
theorem check4_any (x : Wg) (n nb : Nat) (hn : n ≤ 1000) (W : World) (hc : W.cell? ⟨nb, 0, none⟩ = some (.int .i64 n)) :
    Calls Tryz.prog 118 #[wgV x, .pointer (some ⟨nb, 0, none⟩)] W fun e W' => e = .returned (.bool (inB x.f 0 ((n : Int) - 1) && inB x.t 0 ((n : Int) - 1))) ∧ Below W.heap.size W W' := by
  have hl := World.block_lt_of_cell? W _ hc
  have ew : IntKind.i64.wrap ((n : Int) - 1) = (n : Int) - 1 := IntWalk.i64_in _ (by omega)
  dsimp only at hl
  cases h : inB x.f 0 ((n : Int) - 1) <;>
  · go_enter Tryz.func118, Tryz.ntmps118
    go_wp2_with (go_at_call 84; refine (in_any _ _ _ _).mono ?_; rintro e w' ⟨rfl, rfl⟩)
    go_ret
    exact ⟨rfl, (by repeat (first | (with_reducible first | exact Below.refl _ _ | refine Below.drew ?_ | refine below_drewN ?_ _) | ((with_reducible first | refine Lc ?_ ?_ _ | refine Ls ?_ ?_ _ | refine Lv (by assumption) ?_ ?_); · first | exact Nat.le_refl _ | omega | (simp; done) | (simp; omega) | (simp at *; omega))))⟩

set_option maxRecDepth 100000 in
set_option maxHeartbeats 1000000 in
theorem check5_any (x : Wg) (W : World) :
    Calls Tryz.prog 119 #[wgV x] W fun e W' => e = .returned (.bool (decide (x.f ≤ x.t))) ∧ Below W.heap.size W W' := by
  go_enter Tryz.func119, Tryz.ntmps119
  go_wp2_with fail
  go_ret
  exact ⟨rfl, (by repeat (first | (with_reducible first | exact Below.refl _ _ | refine Below.drew ?_ | refine below_drewN ?_ _) | ((with_reducible first | refine Lc ?_ ?_ _ | refine Ls ?_ ?_ _ | refine Lv (by assumption) ?_ ?_); · first | exact Nat.le_refl _ | omega | (simp; done) | (simp; omega) | (simp at *; omega))))⟩

/-- the check at work -/
structure CkAt (W w : World) (r : Rw) (bA : Option Addr) (bc : Nat) (dA : Option Addr) (dc : Nat) (vA : Option Addr) (vc : Nat) : Prop where
  a : RwAt w W.heap.size r bA bc dA dc vA vc
  n : w.cell? ⟨W.heap.size + 1, 0, none⟩ = some (.int .i64 r.n)
  r : RwRow w w.heap.size r bA bc dA dc vA vc
  b : Below W.heap.size W w
theorem CkAt.later {W w w' : World} {r : Rw} {bA : Option Addr} {bc : Nat} {dA : Option Addr} {dc : Nat} {vA : Option Addr} {vc : Nat} (h : CkAt W w r bA bc dA dc vA vc) (hb : Below w.heap.size w w') : CkAt W w' r bA bc dA dc vA vc :=
  ⟨h.a.later hb, Kb hb h.n, (h.r.later hb).up hb.size (Nat.le_refl _), h.b.trans (hb.mono h.b.size)⟩

set_option maxRecDepth 100000 in
set_option maxHeartbeats 4000000 in
theorem check_in (r : Rw) (bA dA vA : Option Addr) (bc dc vc : Nat) (W : World) (hr : RwRow W W.heap.size r bA bc dA dc vA vc) (hc : ¬ (¬ (1 ≤ r.n ∧ r.n ≤ 6) ∨ 7 < r.d ∨ 10 < r.m)) :
    Calls Tryz.prog 48 #[rwV bA r.n bc dA r.d dc vA r.m vc] W fun e W' => e = .returned (.int .i64 r.check) ∧ Below W.heap.size W W' := by
  have HC := Lib.hid hc
  have HR0 := Lib.hid hr
  have hin : inB r.n 1 6 = true := by simp [inB]; omega
  have h7 : ¬ (7 : Int) < (r.d : Int) := by omega
  have h10 : ¬ (10 : Int) < (r.m : Int) := by omega
  have hn1 : r.n ≤ 1000 := by omega
  clear hr hc
  go_enter Tryz.func48, Tryz.ntmps48
  go_upto_region 2 with fail
  refine wp_world (fun W1 => CkAt W W1 r bA bc dA dc vA vc) ⟨⟨(by (repeat' refine And.intro ?_ ?_) <;> (repeat (first | with_reducible assumption | (simp; done) | (with_reducible first | refine Kd ?_ | refine Kn ?_ | refine Kb (by assumption) ?_) | ((with_reducible first | refine Kw ?_ ?_ | refine Fw ?_) <;> first | with_reducible rfl | (simp; done)) | (with_reducible first | refine Ka _ ?_ | refine Ks _ (by first | exact Nat.le_refl _ | omega | (simp; done) | (simp; omega)) ?_ | refine Fd ?_ | refine Fn ?_ | refine Fb (by assumption) (by first | exact Nat.le_refl _ | omega | (simp; done) | (simp; omega)) ?_ | refine Fa _ (by first | exact Nat.le_refl _ | omega | (simp; done) | (simp; omega)) ?_ | refine Fs _ ?_)))), (by (repeat' refine And.intro ?_ ?_) <;> (repeat (first | with_reducible assumption | (simp; done) | (with_reducible first | refine Kd ?_ | refine Kn ?_ | refine Kb (by assumption) ?_) | ((with_reducible first | refine Kw ?_ ?_ | refine Fw ?_) <;> first | with_reducible rfl | (simp; done)) | (with_reducible first | refine Ka _ ?_ | refine Ks _ (by first | exact Nat.le_refl _ | omega | (simp; done) | (simp; omega)) ?_ | refine Fd ?_ | refine Fn ?_ | refine Fb (by assumption) (by first | exact Nat.le_refl _ | omega | (simp; done) | (simp; omega)) ?_ | refine Fa _ (by first | exact Nat.le_refl _ | omega | (simp; done) | (simp; omega)) ?_ | refine Fs _ ?_)))), (by (repeat' refine And.intro ?_ ?_) <;> (repeat (first | with_reducible assumption | (simp; done) | (with_reducible first | refine Kd ?_ | refine Kn ?_ | refine Kb (by assumption) ?_) | ((with_reducible first | refine Kw ?_ ?_ | refine Fw ?_) <;> first | with_reducible rfl | (simp; done)) | (with_reducible first | refine Ka _ ?_ | refine Ks _ (by first | exact Nat.le_refl _ | omega | (simp; done) | (simp; omega)) ?_ | refine Fd ?_ | refine Fn ?_ | refine Fb (by assumption) (by first | exact Nat.le_refl _ | omega | (simp; done) | (simp; omega)) ?_ | refine Fa _ (by first | exact Nat.le_refl _ | omega | (simp; done) | (simp; omega)) ?_ | refine Fs _ ?_))))⟩, (by (repeat' refine And.intro ?_ ?_) <;> (repeat (first | with_reducible assumption | (simp; done) | (with_reducible first | refine Kd ?_ | refine Kn ?_ | refine Kb (by assumption) ?_) | ((with_reducible first | refine Kw ?_ ?_ | refine Fw ?_) <;> first | with_reducible rfl | (simp; done)) | (with_reducible first | refine Ka _ ?_ | refine Ks _ (by first | exact Nat.le_refl _ | omega | (simp; done) | (simp; omega)) ?_ | refine Fd ?_ | refine Fn ?_ | refine Fb (by assumption) (by first | exact Nat.le_refl _ | omega | (simp; done) | (simp; omega)) ?_ | refine Fa _ (by first | exact Nat.le_refl _ | omega | (simp; done) | (simp; omega)) ?_ | refine Fs _ ?_)))), (HR0.out.later (by repeat (first | (with_reducible first | exact Below.refl _ _ | assumption | refine Below.drew ?_) | ((with_reducible first | refine Lc ?_ ?_ _ | refine Ls ?_ ?_ _ | refine Lv (by assumption) ?_ ?_); · first | exact Nat.le_refl _ | omega | (dsimp only; omega) | (simp only [World.size_alloc, World.size_drew, World.heap_drewN]; omega) | (simp; omega))))).up (by simp; omega) (Nat.le_refl _), (by repeat (first | (with_reducible first | exact Below.refl _ _ | assumption | refine Below.drew ?_) | ((with_reducible first | refine Lc ?_ ?_ _ | refine Ls ?_ ?_ _ | refine Lv (by assumption) ?_ ?_); · first | exact Nat.le_refl _ | omega | (dsimp only; omega) | (simp only [World.size_alloc, World.size_drew, World.heap_drewN]; omega) | (simp; omega))))⟩ ?_
  rintro w1 hk1
  have K1 := Lib.hid hk1
  clear hk1 HR0
  obtain ⟨⟨a0, a1, a2⟩, an, -, -⟩ := K1.out
  go_wp2_with (go_at_call 84; refine (in_any _ _ _ _).mono ?_; rintro e w' ⟨rfl, rfl⟩)
  refine (every_bnC bA r.n bc r.B _ K1.out.r.b (by omega) 112 W.heap.size (fun k => (r.B k).gets && inB (r.B k).s 0 r.d) (enters_of Tryz.func112 (by kernel_rfl) rfl) (fun k hk w hb => check1_any (r.B k) r.d dc W.heap.size dA w (K1.out.later hb).a.c1)).mono ?_
  rintro e w2 ⟨rfl, hb⟩
  have K2 := Lib.hid (K1.out.later hb)
  clear hb a0 a1 a2 an K1
  cases h1 : allN (fun k => (r.B k).gets && inB (r.B k).s 0 r.d) r.n with
  | false =>
    have HR : Hid (r.check = 4) := Lib.hid (by unfold Rw.check; rw [if_neg HC.out, if_pos h1])
    go_wp2_with fail
    go_ret
    exact ⟨by rw [HR.out]; rfl, K2.out.b⟩
  | true =>
  have H1 := Lib.hid h1
  clear h1
  obtain ⟨⟨a0, a1, a2⟩, an, -, -⟩ := K2.out
  go_wp2_with fail
  refine (every_wg vA r.m vc r.V _ K2.out.r.v (by omega) 115 (fun k => inB (r.V k).p 0 3000 && inB (r.V k).e 0 100) (enters_of Tryz.func115 (by kernel_rfl) rfl) (fun k hk w hb => check2_any (r.V k) w)).mono ?_
  rintro e w3 ⟨rfl, hb⟩
  have K3 := Lib.hid (K2.out.later hb)
  clear hb a0 a1 a2 an K2
  cases h2 : allN (fun k => inB (r.V k).p 0 3000 && inB (r.V k).e 0 100) r.m with
  | false =>
    have HR : Hid (r.check = 4) := Lib.hid (by unfold Rw.check; rw [if_neg HC.out, if_neg (by rw [H1.out]; decide), if_pos h2])
    go_wp2_with fail
    go_ret
    exact ⟨by rw [HR.out]; rfl, K3.out.b⟩
  | true =>
  have H2 := Lib.hid h2
  clear h2
  obtain ⟨⟨a0, a1, a2⟩, an, -, -⟩ := K3.out
  go_wp2_with fail
  refine (every_kd dA r.d dc r.D _ K3.out.r.d (by omega) 117 (fun k => inB (r.D k) 0 2) (enters_of Tryz.func117 (by kernel_rfl) rfl) (fun k hk w hb => check3_any (r.D k) w)).mono ?_
  rintro e w4 ⟨rfl, hb⟩
  have K4 := Lib.hid (K3.out.later hb)
  clear hb a0 a1 a2 an K3
  cases h3 : allN (fun k => inB (r.D k) 0 2) r.d with
  | false =>
    have HR : Hid (r.check = 2) := Lib.hid (by unfold Rw.check; rw [if_neg HC.out, if_neg (by rw [H1.out]; decide), if_neg (by rw [H2.out]; decide), if_pos h3])
    go_wp2_with fail
    go_ret
    exact ⟨by rw [HR.out]; rfl, K4.out.b⟩
  | true =>
  have H3 := Lib.hid h3
  clear h3
  obtain ⟨⟨a0, a1, a2⟩, an, -, -⟩ := K4.out
  go_wp2_with fail
  refine (every_wgC vA r.m vc r.V _ K4.out.r.v (by omega) 118 (W.heap.size + 1) (fun k => inB (r.V k).f 0 ((r.n : Int) - 1) && inB (r.V k).t 0 ((r.n : Int) - 1)) (enters_of Tryz.func118 (by kernel_rfl) rfl) (fun k hk w hb => check4_any (r.V k) r.n (W.heap.size + 1) hn1 w (K4.out.later hb).n)).mono ?_
  rintro e w5 ⟨rfl, hb⟩
  have K5 := Lib.hid (K4.out.later hb)
  clear hb a0 a1 a2 an K4
  cases h4 : allN (fun k => inB (r.V k).f 0 ((r.n : Int) - 1) && inB (r.V k).t 0 ((r.n : Int) - 1)) r.m with
  | false =>
    have HR : Hid (r.check = 2) := Lib.hid (by unfold Rw.check; rw [if_neg HC.out, if_neg (by rw [H1.out]; decide), if_neg (by rw [H2.out]; decide), if_neg (by rw [H3.out]; decide), if_pos h4])
    go_wp2_with fail
    go_ret
    exact ⟨by rw [HR.out]; rfl, K5.out.b⟩
  | true =>
  have H4 := Lib.hid h4
  clear h4
  obtain ⟨⟨a0, a1, a2⟩, an, -, -⟩ := K5.out
  go_wp2_with fail
  refine (every_wg vA r.m vc r.V _ K5.out.r.v (by omega) 119 (fun k => decide ((r.V k).f ≤ (r.V k).t)) (enters_of Tryz.func119 (by kernel_rfl) rfl) (fun k hk w hb => check5_any (r.V k) w)).mono ?_
  rintro e w6 ⟨rfl, hb⟩
  have K6 := Lib.hid (K5.out.later hb)
  clear hb a0 a1 a2 an K5
  cases h5 : allN (fun k => decide ((r.V k).f ≤ (r.V k).t)) r.m with
  | false =>
    have HR : Hid (r.check = 6) := Lib.hid (by unfold Rw.check; rw [if_neg HC.out, if_neg (by rw [H1.out]; decide), if_neg (by rw [H2.out]; decide), if_neg (by rw [H3.out]; decide), if_neg (by rw [H4.out]; decide), if_pos h5])
    go_wp2_with fail
    go_ret
    exact ⟨by rw [HR.out]; rfl, K6.out.b⟩
  | true =>
    have HR : Hid (r.check = 0) := Lib.hid (by unfold Rw.check; rw [if_neg HC.out, if_neg (by rw [H1.out]; decide), if_neg (by rw [H2.out]; decide), if_neg (by rw [H3.out]; decide), if_neg (by rw [H4.out]; decide), if_neg (by rw [h5]; decide)])
    go_wp2_with fail
    go_ret
    exact ⟨by rw [HR.out]; rfl, K6.out.b⟩

set_option maxRecDepth 100000 in
set_option maxHeartbeats 4000000 in
theorem check_count (r : Rw) (bA dA vA : Option Addr) (bc dc vc : Nat) (W : World) (hc : ¬ (1 ≤ r.n ∧ r.n ≤ 6) ∨ 7 < r.d ∨ 10 < r.m) :
    Calls Tryz.prog 48 #[rwV bA r.n bc dA r.d dc vA r.m vc] W fun e W' => e = .returned (.int .i64 3) ∧ Below W.heap.size W W' := by
  cases h1 : inB r.n 1 6 with
  | false =>
    clear hc
    go_enter Tryz.func48, Tryz.ntmps48
    go_wp2_with (go_at_call 84; refine (in_any _ _ _ _).mono ?_; rintro e w' ⟨rfl, rfl⟩)
    go_ret
    exact ⟨rfl, (by repeat (first | (with_reducible first | exact Below.refl _ _ | refine Below.drew ?_ | refine below_drewN ?_ _) | ((with_reducible first | refine Lc ?_ ?_ _ | refine Ls ?_ ?_ _ | refine Lv (by assumption) ?_ ?_); · first | exact Nat.le_refl _ | omega | (simp; done) | (simp; omega) | (simp at *; omega))))⟩
  | true =>
    have h1' : 1 ≤ r.n ∧ r.n ≤ 6 := by simp [inB] at h1; omega
    by_cases h7 : 7 < r.d
    · have h7' : (7 : Int) < (r.d : Int) := by omega
      clear hc h7
      go_enter Tryz.func48, Tryz.ntmps48
      go_wp2_with (go_at_call 84; refine (in_any _ _ _ _).mono ?_; rintro e w' ⟨rfl, rfl⟩)
      go_ret
      exact ⟨rfl, (by repeat (first | (with_reducible first | exact Below.refl _ _ | refine Below.drew ?_ | refine below_drewN ?_ _) | ((with_reducible first | refine Lc ?_ ?_ _ | refine Ls ?_ ?_ _ | refine Lv (by assumption) ?_ ?_); · first | exact Nat.le_refl _ | omega | (simp; done) | (simp; omega) | (simp at *; omega))))⟩
    · have h7' : ¬ (7 : Int) < (r.d : Int) := by omega
      have h10' : (10 : Int) < (r.m : Int) := by omega
      clear hc h7
      go_enter Tryz.func48, Tryz.ntmps48
      go_wp2_with (go_at_call 84; refine (in_any _ _ _ _).mono ?_; rintro e w' ⟨rfl, rfl⟩)
      go_ret
      exact ⟨rfl, (by repeat (first | (with_reducible first | exact Below.refl _ _ | refine Below.drew ?_ | refine below_drewN ?_ _) | ((with_reducible first | refine Lc ?_ ?_ _ | refine Ls ?_ ?_ _ | refine Lv (by assumption) ?_ ?_); · first | exact Nat.le_refl _ | omega | (simp; done) | (simp; omega) | (simp at *; omega))))⟩
/-- bin.Check -/
theorem check_any (r : Rw) (bA dA vA : Option Addr) (bc dc vc : Nat) (W : World) (hr : RwRow W W.heap.size r bA bc dA dc vA vc) :
    Calls Tryz.prog 48 #[rwV bA r.n bc dA r.d dc vA r.m vc] W fun e W' => e = .returned (.int .i64 r.check) ∧ Below W.heap.size W W' := by
  by_cases hc : ¬ (1 ≤ r.n ∧ r.n ≤ 6) ∨ 7 < r.d ∨ 10 < r.m
  · have e : r.check = 3 := by unfold Rw.check; rw [if_pos hc]
    rw [e]
    exact check_count r bA dA vA bc dc vc W hc
  · exact check_in r bA dA vA bc dc vc W hr hc
end Go.Proofs.YtnnikeolgknfoaaGreat
