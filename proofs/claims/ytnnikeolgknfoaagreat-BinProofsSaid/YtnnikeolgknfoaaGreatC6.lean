/- bin.Expect. -/
import Derived.Test.YtnnikeolgknfoaaGreatBx
import Derived.Test.YtnnikeolgknfoaaGreatBs
set_option linter.unusedSimpArgs false
set_option linter.unusedVariables false
namespace Go.Proofs.YtnnikeolgknfoaaGreat
open Go.RowKit Go.Shelf

@[go_sem ↓] theorem iG0 (a b c d e f : Value) (w : World) : (Instr.index 117 (.agg #[a, b, c, d, e, f]) (.int .i64 0)).run Tryz.prog w = .ok (.agg #[a, b]) w := by kernel_rfl
@[go_sem ↓] theorem iG1 (a b c d e f : Value) (w : World) : (Instr.index 117 (.agg #[a, b, c, d, e, f]) (.int .i64 1)).run Tryz.prog w = .ok (.agg #[c, d]) w := by kernel_rfl
@[go_sem ↓] theorem iG2 (a b c d e f : Value) (w : World) : (Instr.index 117 (.agg #[a, b, c, d, e, f]) (.int .i64 2)).run Tryz.prog w = .ok (.agg #[e, f]) w := by kernel_rfl
def Bn.gv (x : Bn) : Value := .agg #[.int .i64 (x.lo 0), .int .i64 (x.hi 0), .int .i64 (x.lo 1), .int .i64 (x.hi 1), .int .i64 (x.lo 2), .int .i64 (x.hi 2)]
/-- what is expected, not yet divided -/
def exN (x : Bn) (E : Sp → Int) (X : Nat → Int) : Nat → Int
  | 0 => 0
  | k + 1 => exN x E X k + X k * E ⟨x.lo k, x.hi k⟩
/-- a fraction in lowest terms -/
abbrev ratV (n t : Nat) : Value := .agg #[.int .i64 ((n / Nat.gcd n t : Nat) : Int), .int .i64 ((t / Nat.gcd n t : Nat) : Int)]
/-- the boxes of Expect's closure -/
structure ExAt (w : World) (rb bb kb : Nat) (r : Rw) (b : Nat) (X : Nat → Int) (bA : Option Addr) (bc : Nat) (cA : Option Addr) (cc : Nat) : Prop where
  c0 : w.cell? ⟨rb, 0, none⟩ = some (.slice bA r.n bc)
  c1 : w.cell? ⟨bb, 0, none⟩ = some (.int .i64 b)
  c2 : w.cell? ⟨kb, 0, none⟩ = some (.slice cA 3 cc)
  row : BnRow w w.heap.size bA r.n r.B
  ch : IntRow w w.heap.size cA 3 X
theorem ExAt.later {w w' : World} {rb bb cb : Nat} {r : Rw} {b : Nat} {X : Nat → Int} {bA : Option Addr} {bc : Nat} {cA : Option Addr} {cc : Nat} (h : ExAt w rb bb cb r b X bA bc cA cc) (hb : Below w.heap.size w w') : ExAt w' rb bb cb r b X bA bc cA cc :=
  ⟨Kb hb h.c0, Kb hb h.c1, Kb hb h.c2, (h.row.below hb).mono hb.size, (h.ch.below hb).mono hb.size⟩

set_option maxRecDepth 100000 in
set_option maxHeartbeats 4000000 in
theorem expect2_any (g : Nat) (E : Sp → Int) (hE : EndOk g E) (rb bb kb : Nat) (r : Rw) (b : Nat) (hb : b < r.n) (hn : r.n ≤ 6) (hg : ∀ k, k < 3 → 0 ≤ (r.B b).lo k ∧ (r.B b).lo k ≤ (r.B b).hi k ∧ (r.B b).hi k ≤ 50) (X : Nat → Int) (hX : ∀ k, k < 3 → 0 ≤ X k ∧ X k ≤ 100) (bA cA : Option Addr) (bc cc : Nat) (N T : Nat) (hN : (N : Int) = exN (r.B b) E X 3) (hT : (T : Int) = sumN X 3) (hT0 : 0 < T) (W : World) (h : ExAt W rb bb kb r b X bA bc cA cc) :
    Calls Tryz.prog 86 #[.agg #[.func (.func g) #[] #[]], .pointer (some ⟨rb, 0, none⟩), .pointer (some ⟨bb, 0, none⟩), .pointer (some ⟨kb, 0, none⟩)] W fun e W' => e = .returned (ratV N T) ∧ Below W.heap.size W W' := by
  have HX0 := Lib.hid h
  have HE := Lib.hid hE
  have HG := Lib.hid hg
  have HXB := Lib.hid hX
  have hcf := hE.2.1
  have hEB : ∀ k, k < 3 → 0 ≤ E ⟨(r.B b).lo k, (r.B b).hi k⟩ ∧ E ⟨(r.B b).lo k, (r.B b).hi k⟩ ≤ 50 := fun k hk => by
    have h1 := HG.out k hk
    have h2 := HE.out.2.2 ⟨(r.B b).lo k, (r.B b).hi k⟩
    dsimp only at h2
    omega
  have HBD : Hid (∀ k, k ≤ 3 → 0 ≤ exN (r.B b) E X k ∧ exN (r.B b) E X k ≤ 5000 * (k : Int)) := Lib.hid (fun k => by
    induction k with
    | zero => intro _; simp [exN]
    | succ k ih =>
      intro hk
      have h1 := ih (by omega)
      have h2 := hEB k (by omega)
      have h3 := HXB.out k (by omega)
      have h4 : 0 ≤ X k * E ⟨(r.B b).lo k, (r.B b).hi k⟩ := Int.mul_nonneg h3.1 h2.1
      have h5 : X k * E ⟨(r.B b).lo k, (r.B b).hi k⟩ ≤ 100 * 50 := Int.mul_le_mul h3.2 h2.2 h2.1 (by omega)
      show 0 ≤ exN (r.B b) E X k + _ ∧ exN (r.B b) E X k + _ ≤ _
      omega)
  have HEB := Lib.hid hEB
  have HNT := Lib.hid (And.intro hN hT)
  have hNb : N ≤ 15000 := by have := HBD.out 3 (by omega); omega
  have hTb : T ≤ 300 := by
    have h0 := HXB.out 0 (by omega)
    have h1 := HXB.out 1 (by omega)
    have h2 := HXB.out 2 (by omega)
    simp [sumN] at hT
    omega
  clear hE h hg hX hEB hN hT
  obtain ⟨x, hx⟩ : ∃ x, x = r.B b := ⟨_, rfl⟩
  rw [← hx] at HG HBD HEB HNT
  obtain ⟨b', o, hbA, hb', d0, d1, d2, d3, d4, d5, d6⟩ := HX0.out.row b hb
  rw [← hx] at d0 d1 d2 d3 d4 d5 d6
  have c0 := HX0.out.c0
  have c1 := HX0.out.c1
  have c2 := HX0.out.c2
  subst hbA
  have hbn : (b : Int) < (r.n : Int) := by omega
  have hb0 : (0 : Int) ≤ (b : Int) := by omega
  clear hx
  go_enter Tryz.func86, Tryz.ntmps86
  go_upto_region 3 with fail
  refine wp_world (fun W1 => (W1.cell? ⟨W.heap.size, 0, none⟩ = some (.func (.func g) #[] #[])) ∧ ((W1.cell? ⟨W.heap.size + 1, 0, none⟩ = some (.int .i64 0) ∧ W1.cell? ⟨W.heap.size + 1, 1, none⟩ = some (.int .i64 0)) ∧ W1.frozen? ⟨W.heap.size + 1, 0, none⟩ = false ∧ W1.frozen? ⟨W.heap.size + 1, 1, none⟩ = false) ∧ Below W.heap.size W W1 ∧ W.heap.size + 2 ≤ W1.heap.size) ⟨(by (repeat' refine And.intro ?_ ?_) <;> (repeat (first | with_reducible assumption | (simp; done) | (with_reducible first | refine Kd ?_ | refine Kn ?_ | refine Kb (by assumption) ?_) | ((with_reducible first | refine Kw ?_ ?_ | refine Fw ?_) <;> first | with_reducible rfl | (simp; done)) | (with_reducible first | refine Ka _ ?_ | refine Ks _ (by first | exact Nat.le_refl _ | omega | (simp; done) | (simp; omega)) ?_ | refine Fd ?_ | refine Fn ?_ | refine Fb (by assumption) (by first | exact Nat.le_refl _ | omega | (simp; done) | (simp; omega)) ?_ | refine Fa _ (by first | exact Nat.le_refl _ | omega | (simp; done) | (simp; omega)) ?_ | refine Fs _ ?_)))), (by (repeat' refine And.intro ?_ ?_) <;> (repeat (first | with_reducible assumption | (simp; done) | (with_reducible first | refine Kd ?_ | refine Kn ?_ | refine Kb (by assumption) ?_) | ((with_reducible first | refine Kw ?_ ?_ | refine Fw ?_) <;> first | with_reducible rfl | (simp; done)) | (with_reducible first | refine Ka _ ?_ | refine Ks _ (by first | exact Nat.le_refl _ | omega | (simp; done) | (simp; omega)) ?_ | refine Fd ?_ | refine Fn ?_ | refine Fb (by assumption) (by first | exact Nat.le_refl _ | omega | (simp; done) | (simp; omega)) ?_ | refine Fa _ (by first | exact Nat.le_refl _ | omega | (simp; done) | (simp; omega)) ?_ | refine Fs _ ?_)))), (by repeat (first | (with_reducible first | exact Below.refl _ _ | assumption | refine Below.drew ?_) | ((with_reducible first | refine Lc ?_ ?_ _ | refine Ls ?_ ?_ _ | refine Lv (by assumption) ?_ ?_); · first | exact Nat.le_refl _ | omega | (dsimp only; omega) | (simp only [World.size_alloc, World.size_drew, World.heap_drewN]; omega) | (simp; omega)))), by simp⟩ ?_
  rintro w1 ⟨hf, ⟨⟨r0, r1⟩, f0, f1⟩, hb1, hs1⟩
  have HF := Lib.hid hf
  have HR := Lib.hid (And.intro r0 (And.intro r1 (And.intro f0 f1)))
  have HB1 := Lib.hid hb1
  clear d0 d1 d2 d3 d4 d5 d6 c0 c1 c2 hf r0 r1 f0 f1 hb1
  go_loopw [6, 15] (fun v i wr => ∃ k : Nat, k ≤ 3 ∧ i = .int .i64 k ∧ v = .int .i64 (exN x E X k) ∧ Hid (Below w1.heap.size w1 wr)) (fun _ i _ => 3 - (intOf i).toNat)
  case atStart => exact ⟨0, by omega, rfl, rfl, Lib.hid (Below.refl _ _)⟩
  case round =>
    obtain ⟨k, hk, rfl, rfl, HB⟩ := hrel
    obtain ⟨wo, rfl⟩ : ∃ wo, wo = wr := ⟨_, rfl⟩
    have hso := HB.out.size
    have HX1 := Lib.hid (HX0.out.later (HB1.out.trans (HB.out.mono (by omega))))
    have cf := Kb HB.out HF.out
    have c2 := HX1.out.c2
    by_cases hlt : k < 3
    · have hk3 : (k : Int) < 3 := by omega
      have hk0 : (0 : Int) ≤ (k : Int) := by omega
      obtain ⟨b'', o'', hcA, hb'', x0⟩ := HX1.out.ch k hlt
      subst hcA
      have hEb := HEB.out k hlt
      have hXb := HXB.out k hlt
      have hbd := HBD.out k (by omega)
      have hm1 : 0 ≤ X k * E ⟨x.lo k, x.hi k⟩ := Int.mul_nonneg hXb.1 hEb.1
      have hm2 : X k * E ⟨x.lo k, x.hi k⟩ ≤ 100 * 50 := Int.mul_le_mul hXb.2 hEb.2 hEb.1 (by omega)
      have ew : IntKind.i64.wrap (X k * E ⟨x.lo k, x.hi k⟩) = X k * E ⟨x.lo k, x.hi k⟩ := IntWalk.i64_in _ (by omega)
      have hcall : Hid (∀ w, Calls Tryz.prog g #[.agg #[.int .i64 (x.lo k), .int .i64 (x.hi k)]] w fun e W' => e = .returned (.int .i64 (E ⟨x.lo k, x.hi k⟩)) ∧ Below w.heap.size w W') := Lib.hid (fun w => HE.out.1 ⟨x.lo k, x.hi k⟩ w)
      have HST : Hid (exN x E X (k + 1) = exN x E X k + X k * E ⟨x.lo k, x.hi k⟩) := Lib.hid rfl
      obtain ⟨Z, hZ⟩ : ∃ Z, Z = exN x E X k := ⟨_, rfl⟩
      obtain ⟨Y, hY⟩ : ∃ Y, Y = E ⟨x.lo k, x.hi k⟩ := ⟨_, rfl⟩
      obtain ⟨V, hV⟩ : ∃ V, V = X k := ⟨_, rfl⟩
      rw [← hZ, ← hY, ← hV] at HST
      rw [← hY] at hcall hEb
      rw [← hY, ← hV] at hm1 hm2 ew
      rw [← hV] at x0 hXb
      rw [← hZ] at hbd ⊢
      obtain ⟨P, hP⟩ : ∃ P, P = V * Y := ⟨_, rfl⟩
      rw [← hP] at hm1 hm2 HST
      have ew2 : IntKind.i64.wrap (V * Y) = P := by rw [ew, hP]
      clear hZ hY hV hP ew
      have h3 : k = 0 ∨ k = 1 ∨ k = 2 := by omega
      rcases h3 with rfl | rfl | rfl
      · have x0 : wo.cell? ⟨b'', o'', none⟩ = some (.int .i64 V) := x0
        go_upto_region 5 with fail
        refine wp_world (fun W2 => (W2.cell? ⟨wo.heap.size, 0, none⟩ = some (.int .i64 (x.lo 0)) ∧ W2.cell? ⟨wo.heap.size, 1, none⟩ = some (.int .i64 (x.hi 0))) ∧ Below wo.heap.size wo W2 ∧ wo.heap.size + 1 ≤ W2.heap.size) ⟨(by (repeat' refine And.intro ?_ ?_) <;> (repeat (first | with_reducible assumption | (simp; done) | (with_reducible first | refine Kd ?_ | refine Kn ?_ | refine Kb (by assumption) ?_) | ((with_reducible first | refine Kw ?_ ?_ | refine Fw ?_) <;> first | with_reducible rfl | (simp; done)) | (with_reducible first | refine Ka _ ?_ | refine Ks _ (by first | exact Nat.le_refl _ | omega | (simp; done) | (simp; omega)) ?_ | refine Fd ?_ | refine Fn ?_ | refine Fb (by assumption) (by first | exact Nat.le_refl _ | omega | (simp; done) | (simp; omega)) ?_ | refine Fa _ (by first | exact Nat.le_refl _ | omega | (simp; done) | (simp; omega)) ?_ | refine Fs _ ?_)))), (by repeat (first | (with_reducible first | exact Below.refl _ _ | assumption | refine Below.drew ?_) | ((with_reducible first | refine Lc ?_ ?_ _ | refine Ls ?_ ?_ _ | refine Lv (by assumption) ?_ ?_); · first | exact Nat.le_refl _ | omega | (dsimp only; omega) | (simp only [World.size_alloc, World.size_drew, World.heap_drewN]; omega) | (simp; omega)))), by simp⟩ ?_
        rintro w2 ⟨⟨y0, y1⟩, hb2, hs2⟩
        have HB2 := Lib.hid (HB.out.trans (hb2.mono hso))
        have cf2 := Kb hb2 cf
        have c22 := Kb hb2 c2
        have x02 := Kb hb2 x0
        clear hb2 cf c2 x0
        go_region_held3 (fun w' => w'.cell? ⟨W.heap.size, 0, none⟩ = some (.func (.func g) #[] #[]) ∧ w'.cell? ⟨kb, 0, none⟩ = some (.slice (some ⟨b'', o'', none⟩) 3 cc) ∧ w'.cell? ⟨b'', o'', none⟩ = some (.int .i64 V) ∧ w'.cell? ⟨wo.heap.size, 0, none⟩ = some (.int .i64 (x.lo 0)) ∧ w'.cell? ⟨wo.heap.size, 1, none⟩ = some (.int .i64 (x.hi 0))) ((go_split_ands; (repeat' refine And.intro ?_ ?_) <;> (repeat (first | with_reducible assumption | (simp; done) | (with_reducible first | refine Kd ?_ | refine Kn ?_ | refine Kb (by assumption) ?_) | ((with_reducible first | refine Kw ?_ ?_ | refine Fw ?_) <;> first | with_reducible rfl | (simp; done)) | (with_reducible first | refine Ka _ ?_ | refine Ks _ (by first | exact Nat.le_refl _ | omega | (simp; done) | (simp; omega) | (simp at *; omega)) ?_ | refine Fd ?_ | refine Fn ?_ | refine Fb (by assumption) (by first | exact Nat.le_refl _ | omega | (simp; done) | (simp; omega) | (simp at *; omega)) ?_ | refine Fa _ (by first | exact Nat.le_refl _ | omega | (simp; done) | (simp; omega) | (simp at *; omega)) ?_ | refine Fs _ ?_))))) (first | ((refine (hcall.out _).mono ?_); rintro e w3 ⟨rfl, hb3⟩; obtain ⟨hc3, hf3⟩ := bcell hb3; have hz3 := hb3.size) | (go_at_call 85; refine (sum2n _ _ _ _ _ (by omega) (by omega)).mono ?_; rintro e w' ⟨rfl, rfl⟩))
        have hall : Below w2.heap.size w2 (w3.alloc (Obj.cells #[Value.int .i64 Z, Value.int .i64 P] 3)) := (by repeat (first | (with_reducible first | exact Below.refl _ _ | refine Below.drew ?_ | refine below_drewN ?_ _) | ((with_reducible first | refine Lc ?_ ?_ _ | refine Ls ?_ ?_ _ | refine Lv (by assumption) ?_ ?_); · first | exact Nat.le_refl _ | omega | (simp; done) | (simp; omega) | (simp at *; omega))))
        have HALL := Lib.hid (HB2.out.trans (hall.mono (by omega)))
        clear hall hc3 hf3 y0 y1 cf2 c22 x02
        go_wp2_with fail
        go_roundw
        case rel => exact ⟨0 + 1, by omega, by go_num, by rw [HST.out], HALL⟩
        case measure => simp [intOf]
      · have x0 : wo.cell? ⟨b'', o'' + 1, none⟩ = some (.int .i64 V) := x0
        go_upto_region 5 with fail
        refine wp_world (fun W2 => (W2.cell? ⟨wo.heap.size, 0, none⟩ = some (.int .i64 (x.lo 1)) ∧ W2.cell? ⟨wo.heap.size, 1, none⟩ = some (.int .i64 (x.hi 1))) ∧ Below wo.heap.size wo W2 ∧ wo.heap.size + 1 ≤ W2.heap.size) ⟨(by (repeat' refine And.intro ?_ ?_) <;> (repeat (first | with_reducible assumption | (simp; done) | (with_reducible first | refine Kd ?_ | refine Kn ?_ | refine Kb (by assumption) ?_) | ((with_reducible first | refine Kw ?_ ?_ | refine Fw ?_) <;> first | with_reducible rfl | (simp; done)) | (with_reducible first | refine Ka _ ?_ | refine Ks _ (by first | exact Nat.le_refl _ | omega | (simp; done) | (simp; omega)) ?_ | refine Fd ?_ | refine Fn ?_ | refine Fb (by assumption) (by first | exact Nat.le_refl _ | omega | (simp; done) | (simp; omega)) ?_ | refine Fa _ (by first | exact Nat.le_refl _ | omega | (simp; done) | (simp; omega)) ?_ | refine Fs _ ?_)))), (by repeat (first | (with_reducible first | exact Below.refl _ _ | assumption | refine Below.drew ?_) | ((with_reducible first | refine Lc ?_ ?_ _ | refine Ls ?_ ?_ _ | refine Lv (by assumption) ?_ ?_); · first | exact Nat.le_refl _ | omega | (dsimp only; omega) | (simp only [World.size_alloc, World.size_drew, World.heap_drewN]; omega) | (simp; omega)))), by simp⟩ ?_
        rintro w2 ⟨⟨y0, y1⟩, hb2, hs2⟩
        have HB2 := Lib.hid (HB.out.trans (hb2.mono hso))
        have cf2 := Kb hb2 cf
        have c22 := Kb hb2 c2
        have x02 := Kb hb2 x0
        clear hb2 cf c2 x0
        go_region_held3 (fun w' => w'.cell? ⟨W.heap.size, 0, none⟩ = some (.func (.func g) #[] #[]) ∧ w'.cell? ⟨kb, 0, none⟩ = some (.slice (some ⟨b'', o'', none⟩) 3 cc) ∧ w'.cell? ⟨b'', o'' + 1, none⟩ = some (.int .i64 V) ∧ w'.cell? ⟨wo.heap.size, 0, none⟩ = some (.int .i64 (x.lo 1)) ∧ w'.cell? ⟨wo.heap.size, 1, none⟩ = some (.int .i64 (x.hi 1))) ((go_split_ands; (repeat' refine And.intro ?_ ?_) <;> (repeat (first | with_reducible assumption | (simp; done) | (with_reducible first | refine Kd ?_ | refine Kn ?_ | refine Kb (by assumption) ?_) | ((with_reducible first | refine Kw ?_ ?_ | refine Fw ?_) <;> first | with_reducible rfl | (simp; done)) | (with_reducible first | refine Ka _ ?_ | refine Ks _ (by first | exact Nat.le_refl _ | omega | (simp; done) | (simp; omega) | (simp at *; omega)) ?_ | refine Fd ?_ | refine Fn ?_ | refine Fb (by assumption) (by first | exact Nat.le_refl _ | omega | (simp; done) | (simp; omega) | (simp at *; omega)) ?_ | refine Fa _ (by first | exact Nat.le_refl _ | omega | (simp; done) | (simp; omega) | (simp at *; omega)) ?_ | refine Fs _ ?_))))) (first | ((refine (hcall.out _).mono ?_); rintro e w3 ⟨rfl, hb3⟩; obtain ⟨hc3, hf3⟩ := bcell hb3; have hz3 := hb3.size) | (go_at_call 85; refine (sum2n _ _ _ _ _ (by omega) (by omega)).mono ?_; rintro e w' ⟨rfl, rfl⟩))
        have hall : Below w2.heap.size w2 (w3.alloc (Obj.cells #[Value.int .i64 Z, Value.int .i64 P] 3)) := (by repeat (first | (with_reducible first | exact Below.refl _ _ | refine Below.drew ?_ | refine below_drewN ?_ _) | ((with_reducible first | refine Lc ?_ ?_ _ | refine Ls ?_ ?_ _ | refine Lv (by assumption) ?_ ?_); · first | exact Nat.le_refl _ | omega | (simp; done) | (simp; omega) | (simp at *; omega))))
        have HALL := Lib.hid (HB2.out.trans (hall.mono (by omega)))
        clear hall hc3 hf3 y0 y1 cf2 c22 x02
        go_wp2_with fail
        go_roundw
        case rel => exact ⟨1 + 1, by omega, by go_num, by rw [HST.out], HALL⟩
        case measure => simp [intOf]
      · have x0 : wo.cell? ⟨b'', o'' + 2, none⟩ = some (.int .i64 V) := x0
        go_upto_region 5 with fail
        refine wp_world (fun W2 => (W2.cell? ⟨wo.heap.size, 0, none⟩ = some (.int .i64 (x.lo 2)) ∧ W2.cell? ⟨wo.heap.size, 1, none⟩ = some (.int .i64 (x.hi 2))) ∧ Below wo.heap.size wo W2 ∧ wo.heap.size + 1 ≤ W2.heap.size) ⟨(by (repeat' refine And.intro ?_ ?_) <;> (repeat (first | with_reducible assumption | (simp; done) | (with_reducible first | refine Kd ?_ | refine Kn ?_ | refine Kb (by assumption) ?_) | ((with_reducible first | refine Kw ?_ ?_ | refine Fw ?_) <;> first | with_reducible rfl | (simp; done)) | (with_reducible first | refine Ka _ ?_ | refine Ks _ (by first | exact Nat.le_refl _ | omega | (simp; done) | (simp; omega)) ?_ | refine Fd ?_ | refine Fn ?_ | refine Fb (by assumption) (by first | exact Nat.le_refl _ | omega | (simp; done) | (simp; omega)) ?_ | refine Fa _ (by first | exact Nat.le_refl _ | omega | (simp; done) | (simp; omega)) ?_ | refine Fs _ ?_)))), (by repeat (first | (with_reducible first | exact Below.refl _ _ | assumption | refine Below.drew ?_) | ((with_reducible first | refine Lc ?_ ?_ _ | refine Ls ?_ ?_ _ | refine Lv (by assumption) ?_ ?_); · first | exact Nat.le_refl _ | omega | (dsimp only; omega) | (simp only [World.size_alloc, World.size_drew, World.heap_drewN]; omega) | (simp; omega)))), by simp⟩ ?_
        rintro w2 ⟨⟨y0, y1⟩, hb2, hs2⟩
        have HB2 := Lib.hid (HB.out.trans (hb2.mono hso))
        have cf2 := Kb hb2 cf
        have c22 := Kb hb2 c2
        have x02 := Kb hb2 x0
        clear hb2 cf c2 x0
        go_region_held3 (fun w' => w'.cell? ⟨W.heap.size, 0, none⟩ = some (.func (.func g) #[] #[]) ∧ w'.cell? ⟨kb, 0, none⟩ = some (.slice (some ⟨b'', o'', none⟩) 3 cc) ∧ w'.cell? ⟨b'', o'' + 2, none⟩ = some (.int .i64 V) ∧ w'.cell? ⟨wo.heap.size, 0, none⟩ = some (.int .i64 (x.lo 2)) ∧ w'.cell? ⟨wo.heap.size, 1, none⟩ = some (.int .i64 (x.hi 2))) ((go_split_ands; (repeat' refine And.intro ?_ ?_) <;> (repeat (first | with_reducible assumption | (simp; done) | (with_reducible first | refine Kd ?_ | refine Kn ?_ | refine Kb (by assumption) ?_) | ((with_reducible first | refine Kw ?_ ?_ | refine Fw ?_) <;> first | with_reducible rfl | (simp; done)) | (with_reducible first | refine Ka _ ?_ | refine Ks _ (by first | exact Nat.le_refl _ | omega | (simp; done) | (simp; omega) | (simp at *; omega)) ?_ | refine Fd ?_ | refine Fn ?_ | refine Fb (by assumption) (by first | exact Nat.le_refl _ | omega | (simp; done) | (simp; omega) | (simp at *; omega)) ?_ | refine Fa _ (by first | exact Nat.le_refl _ | omega | (simp; done) | (simp; omega) | (simp at *; omega)) ?_ | refine Fs _ ?_))))) (first | ((refine (hcall.out _).mono ?_); rintro e w3 ⟨rfl, hb3⟩; obtain ⟨hc3, hf3⟩ := bcell hb3; have hz3 := hb3.size) | (go_at_call 85; refine (sum2n _ _ _ _ _ (by omega) (by omega)).mono ?_; rintro e w' ⟨rfl, rfl⟩))
        have hall : Below w2.heap.size w2 (w3.alloc (Obj.cells #[Value.int .i64 Z, Value.int .i64 P] 3)) := (by repeat (first | (with_reducible first | exact Below.refl _ _ | refine Below.drew ?_ | refine below_drewN ?_ _) | ((with_reducible first | refine Lc ?_ ?_ _ | refine Ls ?_ ?_ _ | refine Lv (by assumption) ?_ ?_); · first | exact Nat.le_refl _ | omega | (simp; done) | (simp; omega) | (simp at *; omega))))
        have HALL := Lib.hid (HB2.out.trans (hall.mono (by omega)))
        clear hall hc3 hf3 y0 y1 cf2 c22 x02
        go_wp2_with fail
        go_roundw
        case rel => exact ⟨2 + 1, by omega, by go_num, by rw [HST.out], HALL⟩
        case measure => simp [intOf]
    · obtain rfl : k = 3 := by omega
      have hge : ¬ ((3 : Nat) : Int) < 3 := by omega
      have hN := HNT.out.1
      rw [← hN]
      obtain ⟨r0, r1, f0, f1⟩ := HR.out
      have s0 := Kb HB.out r0
      have s1 := Kb HB.out r1
      have g0 := fro_below_cell HB.out r0 f0
      have g1 := fro_below_cell HB.out r1 f1
      have HBW := Lib.hid (HB1.out.trans (HB.out.mono (by omega)))
      clear hN r0 r1 f0 f1 cf
      go_wp2_with fail
      refine (sumC cA 3 cc X T wo HX1.out.ch (by omega) (fun k hk => by have := HXB.out k hk; omega) HNT.out.2.symm).mono ?_
      rintro e w4 ⟨rfl, rfl⟩
      clear c2
      go_wp2_with fail
      refine (lowest_any N T (by omega) hT0 (by omega) _).mono ?_
      rintro e w5 ⟨rfl, hb5⟩
      have t0 := Kb hb5 s0
      have t1 := Kb hb5 s1
      have e0 := fro_below_cell hb5 s0 g0
      have e1 := fro_below_cell hb5 s1 g1
      have HB5 := Lib.hid (HBW.out.trans (hb5.mono (by omega)))
      clear hb5 s0 s1 g0 g1
      obtain ⟨p, hp⟩ : ∃ p : Int, p = ((N / Nat.gcd N T : Nat) : Int) := ⟨_, rfl⟩
      obtain ⟨q, hq⟩ : ∃ q : Int, q = ((T / Nat.gcd N T : Nat) : Int) := ⟨_, rfl⟩
      rw [← hp, ← hq]
      have HPQ := Lib.hid (And.intro hp hq)
      clear hp hq
      go_wp2_with fail
      exact bodyPost_ret (v := .agg #[.int .i64 p, .int .i64 q]) (by simp [results, Tryz.results86, go_sem, t0, t1]) rfl ⟨by rw [HPQ.out.1, HPQ.out.2], by have h := HB5.out; repeat (first | (with_reducible first | exact Below.refl _ _ | assumption | refine Below.drew ?_) | ((with_reducible first | refine Lc ?_ ?_ _ | refine Ls ?_ ?_ _ | refine Lv (by assumption) ?_ ?_); · first | exact Nat.le_refl _ | omega | (dsimp only; omega) | (simp only [World.size_alloc, World.size_drew, World.heap_drewN]; omega) | (simp; omega)))⟩

/-- the error of Expect -/
def Rw.expErr (r : Rw) (b : Int) (n : Nat) (X : Nat → Int) : Int :=
  if r.check ≠ 0 then r.check else if r.binsErr b b ≠ 0 then 2 else if n ≠ 3 then 3 else if allN (fun k => inB (X k) 0 100) n = false then 4 else if sumN X n = 0 then 1 else 0
abbrev rtV (z : Int × Int) : Value := .agg #[.int .i64 z.1, .int .i64 z.2]
def ratP (n t : Nat) : Int × Int := (((n / Nat.gcd n t : Nat) : Int), ((t / Nat.gcd n t : Nat) : Int))
def Rw.expR (r : Rw) (b : Int) (n : Nat) (X : Nat → Int) (E : Sp → Int) : Int × Int := if r.expErr b n X = 0 then ratP (exN (r.B b.toNat) E X 3).toNat (sumN X 3).toNat else (0, 0)
/-- Expect at work -/
structure ExX (W w : World) (db : Nat) (r : Rw) (b : Int) (n : Nat) (X : Nat → Int) (cA : Option Addr) (cc : Nat) (bA : Option Addr) (bc : Nat) (dA : Option Addr) (dc : Nat) (vA : Option Addr) (vc : Nat) : Prop where
  a0 : w.cell? ⟨W.heap.size, 0, none⟩ = some (.slice bA r.n bc)
  b0 : w.cell? ⟨W.heap.size + 1, 0, none⟩ = some (.int .i64 b)
  k0 : w.cell? ⟨W.heap.size + 1 + 1, 0, none⟩ = some (.slice cA n cc)
  r0 : w.cell? ⟨W.heap.size + 1 + 1 + 1, 0, none⟩ = some (.int .i64 0)
  r1 : w.cell? ⟨W.heap.size + 1 + 1 + 1, 1, none⟩ = some (.int .i64 0)
  f0 : w.frozen? ⟨W.heap.size + 1 + 1 + 1, 0, none⟩ = false
  f1 : w.frozen? ⟨W.heap.size + 1 + 1 + 1, 1, none⟩ = false
  s0 : w.cell? ⟨W.heap.size + 1 + 1 + 1 + 1, 0, none⟩ = some (.int .i64 0)
  s1 : w.cell? ⟨W.heap.size + 1 + 1 + 1 + 1, 1, none⟩ = some (.int .i64 0)
  g0 : w.frozen? ⟨W.heap.size + 1 + 1 + 1 + 1, 0, none⟩ = false
  g1 : w.frozen? ⟨W.heap.size + 1 + 1 + 1 + 1, 1, none⟩ = false
  d : RwAt w db r bA bc dA dc vA vc
  row : BnRow w w.heap.size bA r.n r.B
  ch : IntRow w w.heap.size cA n X
  bel : Below W.heap.size W w
theorem ExX.later {W w w' : World} {db : Nat} {r : Rw} {b : Int} {n : Nat} {X : Nat → Int} {cA : Option Addr} {cc : Nat} {bA : Option Addr} {bc : Nat} {dA : Option Addr} {dc : Nat} {vA : Option Addr} {vc : Nat} (h : ExX W w db r b n X cA cc bA bc dA dc vA vc) (hb : Below w.heap.size w w') : ExX W w' db r b n X cA cc bA bc dA dc vA vc :=
  ⟨Kb hb h.a0, Kb hb h.b0, Kb hb h.k0, Kb hb h.r0, Kb hb h.r1, fro_below_cell hb h.r0 h.f0, fro_below_cell hb h.r1 h.f1, Kb hb h.s0, Kb hb h.s1, fro_below_cell hb h.s0 h.g0, fro_below_cell hb h.s1 h.g1, h.d.later hb, (h.row.below hb).mono hb.size, (h.ch.below hb).mono hb.size, h.bel.trans (hb.mono h.bel.size)⟩
set_option maxHeartbeats 400000 in
theorem expect1_any (n : Int) (W : World) : Calls Tryz.prog 83 #[.int .i64 n] W fun e W' => e = .returned (.bool (inB n 0 100)) ∧ Below W.heap.size W W' := by
  go_enter Tryz.func83, Tryz.ntmps83
  go_wp2_with (go_at_call 84; refine (in_any _ _ _ _).mono ?_; rintro e w' ⟨rfl, rfl⟩)
  go_ret
  exact ⟨rfl, (by repeat (first | (with_reducible first | exact Below.refl _ _ | refine Below.drew ?_ | refine below_drewN ?_ _) | ((with_reducible first | refine Lc ?_ ?_ _ | refine Ls ?_ ?_ _ | refine Lv (by assumption) ?_ ?_); · first | exact Nat.le_refl _ | omega | (simp; done) | (simp; omega) | (simp at *; omega))))⟩

set_option maxRecDepth 100000 in
set_option maxHeartbeats 4000000 in
theorem Expect_any (r : Rw) (b : Int) (n : Nat) (X : Nat → Int) (cA : Option Addr) (cc : Nat) (hn : n ≤ 1000) (bA dA vA : Option Addr) (bc dc vc : Nat) (W : World) (hrow : RwRow W W.heap.size r bA bc dA dc vA vc) (hch : IntRow W W.heap.size cA n X) :
    Calls Tryz.prog 22 #[rwV bA r.n bc dA r.d dc vA r.m vc, .int .i64 b, .slice cA n cc] W fun e W' => e = .returned (.tuple #[rtV (r.expR b n X Sp.a), rtV (r.expR b n X Sp.b), .int .i64 (r.expErr b n X)]) ∧ Below W.heap.size W W' := by
  have H0 := Lib.hid hrow
  have HCH := Lib.hid hch
  clear hrow hch
  go_enter Tryz.func22, Tryz.ntmps22
  go_upto_region 1 with fail
  refine wp_world (fun W1 => (W1.cell? ⟨W.heap.size, 0, none⟩ = some (.slice bA r.n bc) ∧ W1.cell? ⟨W.heap.size, 1, none⟩ = some (.slice dA r.d dc) ∧ W1.cell? ⟨W.heap.size, 2, none⟩ = some (.slice vA r.m vc) ∧ W1.cell? ⟨W.heap.size + 1, 0, none⟩ = some (.int .i64 b) ∧ W1.cell? ⟨W.heap.size + 1 + 1, 0, none⟩ = some (.slice cA n cc)) ∧ (W1.cell? ⟨W.heap.size + 1 + 1 + 1, 0, none⟩ = some (.int .i64 0) ∧ W1.cell? ⟨W.heap.size + 1 + 1 + 1, 1, none⟩ = some (.int .i64 0) ∧ W1.frozen? ⟨W.heap.size + 1 + 1 + 1, 0, none⟩ = false ∧ W1.frozen? ⟨W.heap.size + 1 + 1 + 1, 1, none⟩ = false) ∧ (W1.cell? ⟨W.heap.size + 1 + 1 + 1 + 1, 0, none⟩ = some (.int .i64 0) ∧ W1.cell? ⟨W.heap.size + 1 + 1 + 1 + 1, 1, none⟩ = some (.int .i64 0) ∧ W1.frozen? ⟨W.heap.size + 1 + 1 + 1 + 1, 0, none⟩ = false ∧ W1.frozen? ⟨W.heap.size + 1 + 1 + 1 + 1, 1, none⟩ = false) ∧ Below W.heap.size W W1 ∧ W1.heap.size = W.heap.size + 5) ⟨(by (repeat' refine And.intro ?_ ?_) <;> (repeat (first | with_reducible assumption | (simp; done) | (with_reducible first | refine Kd ?_ | refine Kn ?_ | refine Kb (by assumption) ?_) | ((with_reducible first | refine Kw ?_ ?_ | refine Fw ?_) <;> first | with_reducible rfl | (simp; done)) | (with_reducible first | refine Ka _ ?_ | refine Ks _ (by first | exact Nat.le_refl _ | omega | (simp; done) | (simp; omega)) ?_ | refine Fd ?_ | refine Fn ?_ | refine Fb (by assumption) (by first | exact Nat.le_refl _ | omega | (simp; done) | (simp; omega)) ?_ | refine Fa _ (by first | exact Nat.le_refl _ | omega | (simp; done) | (simp; omega)) ?_ | refine Fs _ ?_)))), (by (repeat' refine And.intro ?_ ?_) <;> (repeat (first | with_reducible assumption | (simp; done) | (with_reducible first | refine Kd ?_ | refine Kn ?_ | refine Kb (by assumption) ?_) | ((with_reducible first | refine Kw ?_ ?_ | refine Fw ?_) <;> first | with_reducible rfl | (simp; done)) | (with_reducible first | refine Ka _ ?_ | refine Ks _ (by first | exact Nat.le_refl _ | omega | (simp; done) | (simp; omega)) ?_ | refine Fd ?_ | refine Fn ?_ | refine Fb (by assumption) (by first | exact Nat.le_refl _ | omega | (simp; done) | (simp; omega)) ?_ | refine Fa _ (by first | exact Nat.le_refl _ | omega | (simp; done) | (simp; omega)) ?_ | refine Fs _ ?_)))), (by (repeat' refine And.intro ?_ ?_) <;> (repeat (first | with_reducible assumption | (simp; done) | (with_reducible first | refine Kd ?_ | refine Kn ?_ | refine Kb (by assumption) ?_) | ((with_reducible first | refine Kw ?_ ?_ | refine Fw ?_) <;> first | with_reducible rfl | (simp; done)) | (with_reducible first | refine Ka _ ?_ | refine Ks _ (by first | exact Nat.le_refl _ | omega | (simp; done) | (simp; omega)) ?_ | refine Fd ?_ | refine Fn ?_ | refine Fb (by assumption) (by first | exact Nat.le_refl _ | omega | (simp; done) | (simp; omega)) ?_ | refine Fa _ (by first | exact Nat.le_refl _ | omega | (simp; done) | (simp; omega)) ?_ | refine Fs _ ?_)))), (by repeat (first | (with_reducible first | exact Below.refl _ _ | assumption | refine Below.drew ?_) | ((with_reducible first | refine Lc ?_ ?_ _ | refine Ls ?_ ?_ _ | refine Lv (by assumption) ?_ ?_); · first | exact Nat.le_refl _ | omega | (dsimp only; omega) | (simp only [World.size_alloc, World.size_drew, World.heap_drewN]; omega) | (simp; omega)))), by simp⟩ ?_
  rintro w1 ⟨⟨a0, a1, a2, b0, k0⟩, ⟨r0, r1, f0, f1⟩, ⟨s0, s1, g0, g1⟩, hb1, hs1⟩
  have hW1 : W.heap.size ≤ w1.heap.size := by omega
  have HA := Lib.hid (And.intro a0 (And.intro b0 k0))
  have HR := Lib.hid (And.intro r0 (And.intro r1 (And.intro f0 f1)))
  have HS := Lib.hid (And.intro s0 (And.intro s1 (And.intro g0 g1)))
  have HB1 := Lib.hid hb1
  clear hs1 hb1 r0 r1 f0 f1 s0 s1 g0 g1 b0 k0
  go_wp2_with fail
  refine (opened_any r bA dA vA bc dc vc _ ((H0.out.later HB1.out).up hW1 (Nat.le_refl _))).mono ?_
  rintro e w2 (⟨h0, db, A, c, rfl, hdb, hd, ho, hb2⟩ | ⟨h0, rfl, hb2⟩)
  · have hB2 : Below W.heap.size W w2 := HB1.out.trans (hb2.mono hW1)
    have HX : Hid (ExX W w2 db r b n X cA cc bA bc dA dc vA vc) := Lib.hid ⟨Kb hb2 HA.out.1, Kb hb2 HA.out.2.1, Kb hb2 HA.out.2.2, Kb hb2 HR.out.1, Kb hb2 HR.out.2.1, fro_below_cell hb2 HR.out.1 HR.out.2.2.1, fro_below_cell hb2 HR.out.2.1 HR.out.2.2.2, Kb hb2 HS.out.1, Kb hb2 HS.out.2.1, fro_below_cell hb2 HS.out.1 HS.out.2.2.1, fro_below_cell hb2 HS.out.2.1 HS.out.2.2.2, hd.a.a, (H0.out.b.below hB2).mono hB2.size, (HCH.out.below hB2).mono hB2.size, hB2⟩
    have HE := Lib.hid h0
    have HOK := Lib.hid (Rw.check_ok.1 h0)
    have hn6 := HOK.out.n6
    clear h0 hd ho hb2 hB2 HA HR HS a0 a1 a2
    have b0 := HX.out.b0
    go_wp2_with fail
    refine (bins_any r (by omega) b b db bA dA vA bc dc vc _ HX.out.d).mono ?_
    rintro e w3 ⟨rfl, hb3⟩
    have HX3 := Lib.hid (HX.out.later hb3)
    clear hb3 HX b0
    by_cases hbe : r.binsErr b b = 0
    · rw [hbe]
      have HBE := Lib.hid hbe
      clear hbe
      have k0 := HX3.out.k0
      by_cases hn3 : n = 3
      · subst hn3
        have h33 : (((3 : Nat) : Int) != 3) = false := by simp
        go_wp2_with fail
        refine (every_int cA 3 cc X _ HX3.out.ch (by omega) 83 (fun k => inB (X k) 0 100) (enters_of Tryz.func83 (by kernel_rfl) rfl) (fun k hk w hb => expect1_any (X k) w)).mono ?_
        rintro e w4 ⟨rfl, hb4⟩
        have HX4 := Lib.hid (HX3.out.later hb4)
        clear hb4 HX3 k0
        have k0 := HX4.out.k0
        cases ha : allN (fun k => inB (X k) 0 100) 3 with
        | false =>
          have HF : Hid (r.expErr b 3 X = 4) := Lib.hid (by unfold Rw.expErr; rw [if_neg (by simpa using HE.out), if_neg (by simpa using HBE.out), if_neg (by simp), if_pos ha])
          have HV : Hid (r.expR b 3 X Sp.a = (0, 0)) := Lib.hid (by unfold Rw.expR; rw [HF.out]; rfl)
          have HV2 : Hid (r.expR b 3 X Sp.b = (0, 0)) := Lib.hid (by unfold Rw.expR; rw [HF.out]; rfl)
          clear k0
          obtain ⟨-, -, -, r0, r1, f0, f1, s0, s1, g0, g1, -, -, -, -⟩ := HX4.out
          go_wp2_with fail
          exact bodyPost_ret (v := .tuple #[.agg #[.int .i64 0, .int .i64 0], .agg #[.int .i64 0, .int .i64 0], .int .i64 4]) (by simp [results, Tryz.results22, go_sem, r0, r1, s0, s1]) rfl ⟨by rw [HV.out, HV2.out, HF.out], by have h := HX4.out.bel; repeat (first | (with_reducible first | exact Below.refl _ _ | assumption | refine Below.drew ?_) | ((with_reducible first | refine Lc ?_ ?_ _ | refine Ls ?_ ?_ _ | refine Lv (by assumption) ?_ ?_); · first | exact Nat.le_refl _ | omega | (dsimp only; omega) | (simp only [World.size_alloc, World.size_drew, World.heap_drewN]; omega) | (simp; omega)))⟩
        | true =>
          have hxb : ∀ k, k < 3 → 0 ≤ X k ∧ X k ≤ 100 := fun k hk => inB_iff.1 (allN_iff.1 ha k hk)
          have HXB := Lib.hid hxb
          have HAL := Lib.hid ha
          have hsb : 0 ≤ sumN X 3 := by
            have h0 := hxb 0 (by omega)
            have h1 := hxb 1 (by omega)
            have h2 := hxb 2 (by omega)
            simp [sumN]
            omega
          clear ha hxb
          go_wp2_with fail
          refine (sumC cA 3 cc X (sumN X 3) w4 HX4.out.ch (by omega) (fun k hk => by have := HXB.out k hk; omega) rfl).mono ?_
          rintro e w5 ⟨rfl, rfl⟩
          by_cases hz : sumN X 3 = 0
          · have HF : Hid (r.expErr b 3 X = 1) := Lib.hid (by unfold Rw.expErr; rw [if_neg (by simpa using HE.out), if_neg (by simpa using HBE.out), if_neg (by simp), if_neg (by rw [HAL.out]; decide), if_pos hz])
            have HV : Hid (r.expR b 3 X Sp.a = (0, 0)) := Lib.hid (by unfold Rw.expR; rw [HF.out]; rfl)
            have HV2 : Hid (r.expR b 3 X Sp.b = (0, 0)) := Lib.hid (by unfold Rw.expR; rw [HF.out]; rfl)
            rw [hz]
            clear hz k0
            obtain ⟨-, -, -, r0, r1, f0, f1, s0, s1, g0, g1, -, -, -, -⟩ := HX4.out
            go_wp2_with fail
            exact bodyPost_ret (v := .tuple #[.agg #[.int .i64 0, .int .i64 0], .agg #[.int .i64 0, .int .i64 0], .int .i64 1]) (by simp [results, Tryz.results22, go_sem, r0, r1, s0, s1]) rfl ⟨by rw [HV.out, HV2.out, HF.out], by have h := HX4.out.bel; repeat (first | (with_reducible first | exact Below.refl _ _ | assumption | refine Below.drew ?_) | ((with_reducible first | refine Lc ?_ ?_ _ | refine Ls ?_ ?_ _ | refine Lv (by assumption) ?_ ?_); · first | exact Nat.le_refl _ | omega | (dsimp only; omega) | (simp only [World.size_alloc, World.size_drew, World.heap_drewN]; omega) | (simp; omega)))⟩
          · have HF : Hid (r.expErr b 3 X = 0) := Lib.hid (by unfold Rw.expErr; rw [if_neg (by simpa using HE.out), if_neg (by simpa using HBE.out), if_neg (by simp), if_neg (by rw [HAL.out]; decide), if_neg hz])
            have hzb : (sumN X 3 == 0) = false := by simpa using hz
            have hbo := Rw.bins_ok HBE.out
            obtain ⟨b', hb'⟩ := Int.eq_ofNat_of_zero_le (a := b) (by omega)
            have hbn : b' < r.n := by omega
            have hgk := (HOK.out.b b' hbn).g
            have HGK := Lib.hid hgk
            have hnn : ∀ E g, EndOk g E → 0 ≤ exN (r.B b') E X 3 := fun E g hE => by
              have e : ∀ k, k < 3 → 0 ≤ X k * E ⟨(r.B b').lo k, (r.B b').hi k⟩ := fun k hk => by
                have h1 := HGK.out k hk
                have h2 := hE.2.2 ⟨(r.B b').lo k, (r.B b').hi k⟩
                dsimp only at h2
                exact Int.mul_nonneg (HXB.out k hk).1 (by omega)
              have e0 := e 0 (by omega)
              have e1 := e 1 (by omega)
              have e2 := e 2 (by omega)
              simp only [exN]
              omega
            have n1 := hnn _ _ end_lo
            have n2 := hnn _ _ end_hi
            have HV : Hid (r.expR b 3 X Sp.a = ratP (exN (r.B b') Sp.a X 3).toNat (sumN X 3).toNat) := Lib.hid (by unfold Rw.expR; rw [if_pos HF.out, hb']; rfl)
            have HV2 : Hid (r.expR b 3 X Sp.b = ratP (exN (r.B b') Sp.b X 3).toNat (sumN X 3).toNat) := Lib.hid (by unfold Rw.expR; rw [if_pos HF.out, hb']; rfl)
            have HBK := Lib.hid hb'
            obtain ⟨T, hT⟩ : ∃ T, T = (sumN X 3).toNat := ⟨_, rfl⟩
            obtain ⟨N1, hN1⟩ : ∃ N, N = (exN (r.B b') Sp.a X 3).toNat := ⟨_, rfl⟩
            obtain ⟨N2, hN2⟩ : ∃ N, N = (exN (r.B b') Sp.b X 3).toNat := ⟨_, rfl⟩
            rw [← hT, ← hN1] at HV
            rw [← hT, ← hN2] at HV2
            have HT : Hid ((T : Int) = sumN X 3 ∧ 0 < T ∧ (N1 : Int) = exN (r.B b') Sp.a X 3 ∧ (N2 : Int) = exN (r.B b') Sp.b X 3) := Lib.hid (by omega)
            clear hb' hbo hgk hnn n1 n2 hT hN1 hN2 hz k0
            go_wp2_with fail
            refine (ends_any _).mono ?_
            rintro e w5 ⟨rfl, hb5⟩
            have HX5 := Lib.hid (HX4.out.later hb5)
            clear hb5 HX4
            obtain ⟨-, -, -, r0, r1, f0, f1, s0, s1, g0, g1, -, -, -, -⟩ := HX5.out
            have hsz5 : W.heap.size + 1 + 1 + 1 + 1 < w5.heap.size := World.block_lt_of_cell? w5 _ s0
            go_upto_region 14 with fail
            have HUN : Hid (∀ w, Below w5.heap.size w5 w → ExAt w W.heap.size (W.heap.size + 1) (W.heap.size + 1 + 1) r b' X bA bc cA cc) := Lib.hid (fun w hb => by
              have h := HX5.out.later hb
              have h1 := h.b0
              rw [HBK.out] at h1
              exact ⟨h.a0, h1, h.k0, h.row, h.ch⟩)
            go_region_held3 (fun w' => w'.cell? ⟨w5.heap.size, 0, none⟩ = some (.func (.func 133) #[] #[]) ∧ w'.cell? ⟨w5.heap.size + 1, 0, none⟩ = some (.func (.func 134) #[] #[])) ((go_split_ands; (repeat' refine And.intro ?_ ?_) <;> (repeat (first | with_reducible assumption | (simp; done) | (with_reducible first | refine Kd ?_ | refine Kn ?_ | refine Kb (by assumption) ?_) | ((with_reducible first | refine Kw ?_ ?_ | refine Fw ?_) <;> first | with_reducible rfl | (simp; done)) | (with_reducible first | refine Ka _ ?_ | refine Ks _ (by first | exact Nat.le_refl _ | omega | (simp; done) | (simp; omega) | (simp at *; omega)) ?_ | refine Fd ?_ | refine Fn ?_ | refine Fb (by assumption) (by first | exact Nat.le_refl _ | omega | (simp; done) | (simp; omega) | (simp at *; omega)) ?_ | refine Fa _ (by first | exact Nat.le_refl _ | omega | (simp; done) | (simp; omega) | (simp at *; omega)) ?_ | refine Fs _ ?_))))) (first | (go_at_call 86; refine (expect2_any _ _ (by first | exact end_lo | exact end_hi) W.heap.size (W.heap.size + 1) (W.heap.size + 1 + 1) r b' hbn hn6 HGK.out X HXB.out bA cA bc cc _ T (by first | exact HT.out.2.2.1 | exact HT.out.2.2.2) HT.out.1 HT.out.2.1 _ (HUN.out _ (by repeat (first | (with_reducible first | exact Below.refl _ _ | refine Below.drew ?_ | refine below_drewN ?_ _) | ((with_reducible first | refine Lc ?_ ?_ _ | refine Ls ?_ ?_ _ | refine Lv (by assumption) ?_ ?_); · first | exact Nat.le_refl _ | omega | (simp; done) | (simp; omega) | (simp at *; omega)))))).mono ?_; rintro e w6 ⟨rfl, hb6⟩; obtain ⟨hc6, hf6⟩ := bcell hb6; have hz6 := hb6.size; have r0 : w6.cell? ⟨W.heap.size + 1 + 1 + 1, 0, none⟩ = some (.int .i64 0) := (by repeat (first | with_reducible assumption | (simp; done) | (with_reducible first | refine Kd ?_ | refine Kn ?_ | refine Kb (by assumption) ?_) | ((with_reducible first | refine Kw ?_ ?_ | refine Fw ?_) <;> first | with_reducible rfl | (simp; done)) | (with_reducible first | refine Ka _ ?_ | refine Ks _ (by first | exact Nat.le_refl _ | omega | (simp; done) | (simp; omega) | (simp at *; omega)) ?_ | refine Fd ?_ | refine Fn ?_ | refine Fb (by assumption) (by first | exact Nat.le_refl _ | omega | (simp; done) | (simp; omega) | (simp at *; omega)) ?_ | refine Fa _ (by first | exact Nat.le_refl _ | omega | (simp; done) | (simp; omega) | (simp at *; omega)) ?_ | refine Fs _ ?_))); have r1 : w6.cell? ⟨W.heap.size + 1 + 1 + 1, 1, none⟩ = some (.int .i64 0) := (by repeat (first | with_reducible assumption | (simp; done) | (with_reducible first | refine Kd ?_ | refine Kn ?_ | refine Kb (by assumption) ?_) | ((with_reducible first | refine Kw ?_ ?_ | refine Fw ?_) <;> first | with_reducible rfl | (simp; done)) | (with_reducible first | refine Ka _ ?_ | refine Ks _ (by first | exact Nat.le_refl _ | omega | (simp; done) | (simp; omega) | (simp at *; omega)) ?_ | refine Fd ?_ | refine Fn ?_ | refine Fb (by assumption) (by first | exact Nat.le_refl _ | omega | (simp; done) | (simp; omega) | (simp at *; omega)) ?_ | refine Fa _ (by first | exact Nat.le_refl _ | omega | (simp; done) | (simp; omega) | (simp at *; omega)) ?_ | refine Fs _ ?_))); have s0 : w6.cell? ⟨W.heap.size + 1 + 1 + 1 + 1, 0, none⟩ = some (.int .i64 0) := (by repeat (first | with_reducible assumption | (simp; done) | (with_reducible first | refine Kd ?_ | refine Kn ?_ | refine Kb (by assumption) ?_) | ((with_reducible first | refine Kw ?_ ?_ | refine Fw ?_) <;> first | with_reducible rfl | (simp; done)) | (with_reducible first | refine Ka _ ?_ | refine Ks _ (by first | exact Nat.le_refl _ | omega | (simp; done) | (simp; omega) | (simp at *; omega)) ?_ | refine Fd ?_ | refine Fn ?_ | refine Fb (by assumption) (by first | exact Nat.le_refl _ | omega | (simp; done) | (simp; omega) | (simp at *; omega)) ?_ | refine Fa _ (by first | exact Nat.le_refl _ | omega | (simp; done) | (simp; omega) | (simp at *; omega)) ?_ | refine Fs _ ?_))); have s1 : w6.cell? ⟨W.heap.size + 1 + 1 + 1 + 1, 1, none⟩ = some (.int .i64 0) := (by repeat (first | with_reducible assumption | (simp; done) | (with_reducible first | refine Kd ?_ | refine Kn ?_ | refine Kb (by assumption) ?_) | ((with_reducible first | refine Kw ?_ ?_ | refine Fw ?_) <;> first | with_reducible rfl | (simp; done)) | (with_reducible first | refine Ka _ ?_ | refine Ks _ (by first | exact Nat.le_refl _ | omega | (simp; done) | (simp; omega) | (simp at *; omega)) ?_ | refine Fd ?_ | refine Fn ?_ | refine Fb (by assumption) (by first | exact Nat.le_refl _ | omega | (simp; done) | (simp; omega) | (simp at *; omega)) ?_ | refine Fa _ (by first | exact Nat.le_refl _ | omega | (simp; done) | (simp; omega) | (simp at *; omega)) ?_ | refine Fs _ ?_))); have f0 : w6.frozen? ⟨W.heap.size + 1 + 1 + 1, 0, none⟩ = false := (by repeat (first | with_reducible assumption | (simp; done) | (with_reducible first | refine Kd ?_ | refine Kn ?_ | refine Kb (by assumption) ?_) | ((with_reducible first | refine Kw ?_ ?_ | refine Fw ?_) <;> first | with_reducible rfl | (simp; done)) | (with_reducible first | refine Ka _ ?_ | refine Ks _ (by first | exact Nat.le_refl _ | omega | (simp; done) | (simp; omega) | (simp at *; omega)) ?_ | refine Fd ?_ | refine Fn ?_ | refine Fb (by assumption) (by first | exact Nat.le_refl _ | omega | (simp; done) | (simp; omega) | (simp at *; omega)) ?_ | refine Fa _ (by first | exact Nat.le_refl _ | omega | (simp; done) | (simp; omega) | (simp at *; omega)) ?_ | refine Fs _ ?_))); have f1 : w6.frozen? ⟨W.heap.size + 1 + 1 + 1, 1, none⟩ = false := (by repeat (first | with_reducible assumption | (simp; done) | (with_reducible first | refine Kd ?_ | refine Kn ?_ | refine Kb (by assumption) ?_) | ((with_reducible first | refine Kw ?_ ?_ | refine Fw ?_) <;> first | with_reducible rfl | (simp; done)) | (with_reducible first | refine Ka _ ?_ | refine Ks _ (by first | exact Nat.le_refl _ | omega | (simp; done) | (simp; omega) | (simp at *; omega)) ?_ | refine Fd ?_ | refine Fn ?_ | refine Fb (by assumption) (by first | exact Nat.le_refl _ | omega | (simp; done) | (simp; omega) | (simp at *; omega)) ?_ | refine Fa _ (by first | exact Nat.le_refl _ | omega | (simp; done) | (simp; omega) | (simp at *; omega)) ?_ | refine Fs _ ?_))); have g0 : w6.frozen? ⟨W.heap.size + 1 + 1 + 1 + 1, 0, none⟩ = false := (by repeat (first | with_reducible assumption | (simp; done) | (with_reducible first | refine Kd ?_ | refine Kn ?_ | refine Kb (by assumption) ?_) | ((with_reducible first | refine Kw ?_ ?_ | refine Fw ?_) <;> first | with_reducible rfl | (simp; done)) | (with_reducible first | refine Ka _ ?_ | refine Ks _ (by first | exact Nat.le_refl _ | omega | (simp; done) | (simp; omega) | (simp at *; omega)) ?_ | refine Fd ?_ | refine Fn ?_ | refine Fb (by assumption) (by first | exact Nat.le_refl _ | omega | (simp; done) | (simp; omega) | (simp at *; omega)) ?_ | refine Fa _ (by first | exact Nat.le_refl _ | omega | (simp; done) | (simp; omega) | (simp at *; omega)) ?_ | refine Fs _ ?_))); have g1 : w6.frozen? ⟨W.heap.size + 1 + 1 + 1 + 1, 1, none⟩ = false := (by repeat (first | with_reducible assumption | (simp; done) | (with_reducible first | refine Kd ?_ | refine Kn ?_ | refine Kb (by assumption) ?_) | ((with_reducible first | refine Kw ?_ ?_ | refine Fw ?_) <;> first | with_reducible rfl | (simp; done)) | (with_reducible first | refine Ka _ ?_ | refine Ks _ (by first | exact Nat.le_refl _ | omega | (simp; done) | (simp; omega) | (simp at *; omega)) ?_ | refine Fd ?_ | refine Fn ?_ | refine Fb (by assumption) (by first | exact Nat.le_refl _ | omega | (simp; done) | (simp; omega) | (simp at *; omega)) ?_ | refine Fa _ (by first | exact Nat.le_refl _ | omega | (simp; done) | (simp; omega) | (simp at *; omega)) ?_ | refine Fs _ ?_)))))
            clear hc6 hf6
            go_wp2_with fail
            exact bodyPost_ret (v := .tuple #[rtV (ratP N1 T), rtV (ratP N2 T), .int .i64 0]) (by simp [results, Tryz.results22, go_sem, r0, r1, s0, s1, ratP]) rfl ⟨by rw [HV.out, HV2.out, HF.out], (by have hy := HX5.out.bel; have hzy := hy.size; repeat (first | (with_reducible first | exact Below.refl _ _ | refine Below.drew ?_ | refine below_drewN ?_ _) | ((with_reducible first | refine Lc ?_ ?_ _ | refine Ls ?_ ?_ _ | refine Lv (by assumption) ?_ ?_); · first | exact Nat.le_refl _ | omega | (simp; done) | (simp; omega) | (simp at *; omega))))⟩
      · have hne : ((n : Int) != 3) = true := by rw [bne_iff_ne]; omega
        have HF : Hid (r.expErr b n X = 3) := Lib.hid (by unfold Rw.expErr; rw [if_neg (by simpa using HE.out), if_neg (by simpa using HBE.out), if_pos hn3])
        have HV : Hid (r.expR b n X Sp.a = (0, 0)) := Lib.hid (by unfold Rw.expR; rw [HF.out]; rfl)
        have HV2 : Hid (r.expR b n X Sp.b = (0, 0)) := Lib.hid (by unfold Rw.expR; rw [HF.out]; rfl)
        obtain ⟨-, -, -, r0, r1, f0, f1, s0, s1, g0, g1, -, -, -, -⟩ := HX3.out
        go_wp2_with fail
        exact bodyPost_ret (v := .tuple #[.agg #[.int .i64 0, .int .i64 0], .agg #[.int .i64 0, .int .i64 0], .int .i64 3]) (by simp [results, Tryz.results22, go_sem, r0, r1, s0, s1]) rfl ⟨by rw [HV.out, HV2.out, HF.out], by have h := HX3.out.bel; repeat (first | (with_reducible first | exact Below.refl _ _ | assumption | refine Below.drew ?_) | ((with_reducible first | refine Lc ?_ ?_ _ | refine Ls ?_ ?_ _ | refine Lv (by assumption) ?_ ?_); · first | exact Nat.le_refl _ | omega | (dsimp only; omega) | (simp only [World.size_alloc, World.size_drew, World.heap_drewN]; omega) | (simp; omega)))⟩
    · have HF : Hid (r.expErr b n X = 2) := Lib.hid (by unfold Rw.expErr; rw [if_neg (by simpa using HE.out), if_pos hbe])
      have HV : Hid (r.expR b n X Sp.a = (0, 0)) := Lib.hid (by unfold Rw.expR; rw [HF.out]; rfl)
      have HV2 : Hid (r.expR b n X Sp.b = (0, 0)) := Lib.hid (by unfold Rw.expR; rw [HF.out]; rfl)
      have hne : (r.binsErr b b != 0) = true := by simpa using hbe
      clear hbe
      obtain ⟨-, -, -, r0, r1, f0, f1, s0, s1, g0, g1, -, -, -, -⟩ := HX3.out
      go_wp2_with fail
      exact bodyPost_ret (v := .tuple #[.agg #[.int .i64 0, .int .i64 0], .agg #[.int .i64 0, .int .i64 0], .int .i64 2]) (by simp [results, Tryz.results22, go_sem, r0, r1, s0, s1]) rfl ⟨by rw [HV.out, HV2.out, HF.out], by have h := HX3.out.bel; repeat (first | (with_reducible first | exact Below.refl _ _ | assumption | refine Below.drew ?_) | ((with_reducible first | refine Lc ?_ ?_ _ | refine Ls ?_ ?_ _ | refine Lv (by assumption) ?_ ?_); · first | exact Nat.le_refl _ | omega | (dsimp only; omega) | (simp only [World.size_alloc, World.size_drew, World.heap_drewN]; omega) | (simp; omega)))⟩
  · have HB2 := Lib.hid (HB1.out.trans (hb2.mono hW1))
    have HF : Hid (r.expErr b n X = r.check) := Lib.hid (by unfold Rw.expErr; rw [if_pos h0])
    have HV : Hid (r.expR b n X Sp.a = (0, 0)) := Lib.hid (by unfold Rw.expR; rw [HF.out, if_neg h0])
    have HV2 : Hid (r.expR b n X Sp.b = (0, 0)) := Lib.hid (by unfold Rw.expR; rw [HF.out, if_neg h0])
    have hne : (r.check != 0) = true := by simpa using h0
    have r0 := Kb hb2 HR.out.1
    have r1 := Kb hb2 HR.out.2.1
    have f0 := fro_below_cell hb2 HR.out.1 HR.out.2.2.1
    have f1 := fro_below_cell hb2 HR.out.2.1 HR.out.2.2.2
    have s0 := Kb hb2 HS.out.1
    have s1 := Kb hb2 HS.out.2.1
    have g0 := fro_below_cell hb2 HS.out.1 HS.out.2.2.1
    have g1 := fro_below_cell hb2 HS.out.2.1 HS.out.2.2.2
    clear h0 hb2 a0 a1 a2
    go_wp2_with fail
    exact bodyPost_ret (v := .tuple #[.agg #[.int .i64 0, .int .i64 0], .agg #[.int .i64 0, .int .i64 0], .int .i64 r.check]) (by simp [results, Tryz.results22, go_sem, r0, r1, s0, s1]) rfl ⟨by rw [HV.out, HV2.out, HF.out], by have h := HB2.out; repeat (first | (with_reducible first | exact Below.refl _ _ | assumption | refine Below.drew ?_) | ((with_reducible first | refine Lc ?_ ?_ _ | refine Ls ?_ ?_ _ | refine Lv (by assumption) ?_ ?_); · first | exact Nat.le_refl _ | omega | (dsimp only; omega) | (simp only [World.size_alloc, World.size_drew, World.heap_drewN]; omega) | (simp; omega)))⟩
end Go.Proofs.YtnnikeolgknfoaaGreat
