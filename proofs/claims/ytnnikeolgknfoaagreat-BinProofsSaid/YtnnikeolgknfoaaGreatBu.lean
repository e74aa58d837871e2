/- desk.width, desk.settles. -/
import Derived.Test.YtnnikeolgknfoaaGreatBn
set_option linter.unusedSimpArgs false
set_option linter.unusedVariables false
namespace Go.Proofs.YtnnikeolgknfoaaGreat
open Go.RowKit Go.Shelf

/-- bounds of the least numbers -/
def LBd (L : Nat → Nat → Int) (n : Nat) : Prop := ∀ a b, a ≤ n → b ≤ n → -2100 ≤ L a b ∧ L a b ≤ 2100
/-- with an exact weighing more -/
def nearN (L : Nat → Nat → Int) (f t : Nat) (p : Int) (a b : Nat) : Int := min (min (L a b) (L a f + p + L (t + 1) b)) (L a (t + 1) - p + L f b)
/-- the boxes of width -/
structure NrAt (w : World) (xb db n : Nat) (L : Nat → Nat → Int) (f t : Nat) (p : Int) : Prop where
  d : w.cell? ⟨xb, 0, none⟩ = some (.pointer (some ⟨db, 0, none⟩))
  f : w.cell? ⟨xb + 1, 0, none⟩ = some (.int .i64 f)
  t : w.cell? ⟨xb + 1 + 1, 0, none⟩ = some (.int .i64 t)
  p : w.cell? ⟨xb + 1 + 1 + 1, 0, none⟩ = some (.int .i64 p)
  l : LsAt w db n L
  lt : db < w.heap.size
theorem NrAt.later {w w' : World} {xb db n : Nat} {L : Nat → Nat → Int} {f t : Nat} {p : Int} (h : NrAt w xb db n L f t p) (hb : Below w.heap.size w w') : NrAt w' xb db n L f t p :=
  ⟨Kb hb h.d, Kb hb h.f, Kb hb h.t, Kb hb h.p, h.l.same (hb.block db h.lt), Nat.lt_of_lt_of_le h.lt hb.size⟩
set_option maxRecDepth 100000 in
set_option maxHeartbeats 4000000 in
theorem near_any (n : Nat) (hn : n ≤ 6) (L : Nat → Nat → Int) (hL : LBd L n) (f t a b : Nat) (p : Int) (hf : f < n) (ht : t < n) (ha : a ≤ n) (hb : b ≤ n) (hp : -100000 ≤ p ∧ p ≤ 100000) (xb db : Nat) (W : World) (h : NrAt W xb db n L f t p) :
    Calls Tryz.prog 154 #[.int .i64 a, .int .i64 b, .pointer (some ⟨xb, 0, none⟩), .pointer (some ⟨xb + 1, 0, none⟩), .pointer (some ⟨xb + 1 + 1 + 1, 0, none⟩), .pointer (some ⟨xb + 1 + 1, 0, none⟩)] W fun e W' => e = .returned (.int .i64 (nearN L f t p a b)) ∧ Below W.heap.size W W' := by
  have l1 := h.l a b ha hb
  have l2 := h.l a f ha (by omega)
  have l3 := h.l (t + 1) b (by omega) hb
  have l4 := h.l a (t + 1) ha (by omega)
  have l5 := h.l f b (by omega) hb
  have b1 := hL a b ha hb
  have b2 := hL a f ha (by omega)
  have b3 := hL (t + 1) b (by omega) hb
  have b4 := hL a (t + 1) ha (by omega)
  have b5 := hL f b (by omega) hb
  obtain ⟨x1, hx1⟩ : ∃ x, x = L a b := ⟨_, rfl⟩
  obtain ⟨x2, hx2⟩ : ∃ x, x = L a f := ⟨_, rfl⟩
  obtain ⟨x3, hx3⟩ : ∃ x, x = L (t + 1) b := ⟨_, rfl⟩
  obtain ⟨x4, hx4⟩ : ∃ x, x = L a (t + 1) := ⟨_, rfl⟩
  obtain ⟨x5, hx5⟩ : ∃ x, x = L f b := ⟨_, rfl⟩
  have HV : Hid (nearN L f t p a b = min (min x1 (x2 + p + x3)) (x4 - p + x5)) := Lib.hid (by unfold nearN; rw [hx1, hx2, hx3, hx4, hx5])
  rw [← hx1] at l1 b1
  rw [← hx2] at l2 b2
  rw [← hx3] at l3 b3
  rw [← hx4] at l4 b4
  rw [← hx5] at l5 b5
  have e1 : IntKind.i64.wrap ((t : Int) + 1) = (t : Int) + 1 := IntWalk.i64_in _ (by omega)
  have e2 : IntKind.i64.wrap (x2 + p) = x2 + p := IntWalk.i64_in _ (by omega)
  have e3 : IntKind.i64.wrap (x2 + p + x3) = x2 + p + x3 := IntWalk.i64_in _ (by omega)
  have e4 : IntKind.i64.wrap (x4 - p) = x4 - p := IntWalk.i64_in _ (by omega)
  have e5 : IntKind.i64.wrap (x4 - p + x5) = x4 - p + x5 := IntWalk.i64_in _ (by omega)
  have ha0 : (0 : Int) ≤ (a : Int) := by omega
  have ha7 : (a : Int) < 7 := by omega
  have hb0 : (0 : Int) ≤ (b : Int) := by omega
  have hb7 : (b : Int) < 7 := by omega
  have hf0 : (0 : Int) ≤ (f : Int) := by omega
  have hf7 : (f : Int) < 7 := by omega
  have ht0 : (0 : Int) ≤ (t : Int) + 1 := by omega
  have ht7 : (t : Int) + 1 < 7 := by omega
  have q0 := h.d
  have q1 := h.f
  have q2 := h.t
  have q3 := h.p
  clear hx1 hx2 hx3 hx4 hx5 hL h b1 b2 b3 b4 b5
  have HC : (x2 + p + x3 < x1 ∧ x4 - p + x5 < x2 + p + x3 ∧ Hid (nearN L f t p a b = x4 - p + x5)) ∨ (x2 + p + x3 < x1 ∧ ¬ x4 - p + x5 < x2 + p + x3 ∧ Hid (nearN L f t p a b = x2 + p + x3)) ∨ (¬ x2 + p + x3 < x1 ∧ x4 - p + x5 < x1 ∧ Hid (nearN L f t p a b = x4 - p + x5)) ∨ (¬ x2 + p + x3 < x1 ∧ ¬ x4 - p + x5 < x1 ∧ Hid (nearN L f t p a b = x1)) := by
    by_cases c1 : x2 + p + x3 < x1
    · by_cases c2 : x4 - p + x5 < x2 + p + x3
      · exact .inl ⟨c1, c2, Lib.hid (by rw [HV.out]; omega)⟩
      · exact .inr (.inl ⟨c1, c2, Lib.hid (by rw [HV.out]; omega)⟩)
    · by_cases c2 : x4 - p + x5 < x1
      · exact .inr (.inr (.inl ⟨c1, c2, Lib.hid (by rw [HV.out]; omega)⟩))
      · exact .inr (.inr (.inr ⟨c1, c2, Lib.hid (by rw [HV.out]; omega)⟩))
  clear HV
  rcases HC with ⟨c1, c2, HV⟩ | ⟨c1, c2, HV⟩ | ⟨c1, c2, HV⟩ | ⟨c1, c2, HV⟩
  all_goals
    go_enter Tryz.func154, Tryz.ntmps154
    go_upto_region 1 with fail
    refine region_qbw (by kernel_rfl) (by kernel_rfl) ?_
    have y0 := cell_regrown q0
    have y1 := cell_regrown q1
    have y2 := cell_regrown q2
    have y3 := cell_regrown q3
    have y4 := cell_regrown l1
    have y5 := cell_regrown l2
    have y6 := cell_regrown l3
    have y7 := cell_regrown l4
    have y8 := cell_regrown l5
    clear q0 q1 q2 q3 l1 l2 l3 l4 l5
    repeat (first | go_big_quiet_step (fail) | quiet_step (fail))
    refine wpQuiet_nil ?_; intro wq hbq
    clear y0 y1 y2 y3 y4 y5 y6 y7 y8
    go_wp2_with fail
    go_ret
    exact ⟨by rw [HV.out]; rfl, hbq⟩

/-- the width with an exact weighing more -/
def widthN (L : Nat → Nat → Int) (f t : Nat) (p : Int) : Nat → Int
  | 0 => 0
  | k + 1 => widthN L f t p k + nearN L f t p k (k + 1) + nearN L f t p (k + 1) k
theorem nearN_bd {L : Nat → Nat → Int} {n f t a b : Nat} {p : Int} (hL : LBd L n) (hf : f < n) (ht : t < n) (ha : a ≤ n) (hb : b ≤ n) (hp : -3000 ≤ p ∧ p ≤ 3000) : -10000 ≤ nearN L f t p a b ∧ nearN L f t p a b ≤ 10000 := by
  have b1 := hL a b ha hb
  have b2 := hL a f ha (by omega)
  have b3 := hL (t + 1) b (by omega) hb
  have b4 := hL a (t + 1) ha (by omega)
  have b5 := hL f b (by omega) hb
  unfold nearN
  omega
theorem widthN_bd {L : Nat → Nat → Int} {n f t : Nat} {p : Int} (hL : LBd L n) (hf : f < n) (ht : t < n) (hp : -3000 ≤ p ∧ p ≤ 3000) : ∀ k, k ≤ n → -20000 * (k : Int) ≤ widthN L f t p k ∧ widthN L f t p k ≤ 20000 * (k : Int)
  | 0, _ => by simp [widthN]
  | k + 1, hk => by
    have ih := widthN_bd hL hf ht hp k (by omega)
    have h1 := nearN_bd (a := k) (b := k + 1) hL hf ht (by omega) (by omega) hp
    have h2 := nearN_bd (a := k + 1) (b := k) hL hf ht (by omega) (by omega) hp
    unfold widthN
    omega
set_option maxRecDepth 100000 in
set_option maxHeartbeats 4000000 in
theorem width_any (r : Rw) (hn : r.n ≤ 6) (L : Nat → Nat → Int) (hL : LBd L r.n) (f t : Nat) (p : Int) (hf : f < r.n) (ht : t < r.n) (hp : -3000 ≤ p ∧ p ≤ 3000) (db : Nat) (bA dA vA : Option Addr) (bc dc vc : Nat) (W : World) (hd : RwAt W db r bA bc dA dc vA vc) (hl : LsAt W db r.n L) :
    Calls Tryz.prog 135 #[.pointer (some ⟨db, 0, none⟩), .int .i64 f, .int .i64 t, .int .i64 p] W fun e W' => e = .returned (.int .i64 (widthN L f t p r.n)) ∧ Below W.heap.size W W' := by
  have HL := Lib.hid hL
  have c0 := hd.c0
  have HLS := Lib.hid hl
  have hlt := hd.lt
  clear hL hd hl
  go_enter Tryz.func135, Tryz.ntmps135
  go_upto_region 3 with fail
  refine wp_world (fun W1 => NrAt W1 W.heap.size db r.n L f t p ∧ W1.cell? ⟨db, 0, none⟩ = some (.slice bA r.n bc) ∧ Below W.heap.size W W1) ⟨⟨(by (repeat' refine And.intro ?_ ?_) <;> (repeat (first | with_reducible assumption | (simp; done) | (with_reducible first | refine Kd ?_ | refine Kn ?_ | refine Kb (by assumption) ?_) | ((with_reducible first | refine Kw ?_ ?_ | refine Fw ?_) <;> first | with_reducible rfl | (simp; done)) | (with_reducible first | refine Ka _ ?_ | refine Ks _ (by first | exact Nat.le_refl _ | omega | (simp; done) | (simp; omega)) ?_ | refine Fd ?_ | refine Fn ?_ | refine Fb (by assumption) (by first | exact Nat.le_refl _ | omega | (simp; done) | (simp; omega)) ?_ | refine Fa _ (by first | exact Nat.le_refl _ | omega | (simp; done) | (simp; omega)) ?_ | refine Fs _ ?_)))), (by (repeat' refine And.intro ?_ ?_) <;> (repeat (first | with_reducible assumption | (simp; done) | (with_reducible first | refine Kd ?_ | refine Kn ?_ | refine Kb (by assumption) ?_) | ((with_reducible first | refine Kw ?_ ?_ | refine Fw ?_) <;> first | with_reducible rfl | (simp; done)) | (with_reducible first | refine Ka _ ?_ | refine Ks _ (by first | exact Nat.le_refl _ | omega | (simp; done) | (simp; omega)) ?_ | refine Fd ?_ | refine Fn ?_ | refine Fb (by assumption) (by first | exact Nat.le_refl _ | omega | (simp; done) | (simp; omega)) ?_ | refine Fa _ (by first | exact Nat.le_refl _ | omega | (simp; done) | (simp; omega)) ?_ | refine Fs _ ?_)))), (by (repeat' refine And.intro ?_ ?_) <;> (repeat (first | with_reducible assumption | (simp; done) | (with_reducible first | refine Kd ?_ | refine Kn ?_ | refine Kb (by assumption) ?_) | ((with_reducible first | refine Kw ?_ ?_ | refine Fw ?_) <;> first | with_reducible rfl | (simp; done)) | (with_reducible first | refine Ka _ ?_ | refine Ks _ (by first | exact Nat.le_refl _ | omega | (simp; done) | (simp; omega)) ?_ | refine Fd ?_ | refine Fn ?_ | refine Fb (by assumption) (by first | exact Nat.le_refl _ | omega | (simp; done) | (simp; omega)) ?_ | refine Fa _ (by first | exact Nat.le_refl _ | omega | (simp; done) | (simp; omega)) ?_ | refine Fs _ ?_)))), (by (repeat' refine And.intro ?_ ?_) <;> (repeat (first | with_reducible assumption | (simp; done) | (with_reducible first | refine Kd ?_ | refine Kn ?_ | refine Kb (by assumption) ?_) | ((with_reducible first | refine Kw ?_ ?_ | refine Fw ?_) <;> first | with_reducible rfl | (simp; done)) | (with_reducible first | refine Ka _ ?_ | refine Ks _ (by first | exact Nat.le_refl _ | omega | (simp; done) | (simp; omega)) ?_ | refine Fd ?_ | refine Fn ?_ | refine Fb (by assumption) (by first | exact Nat.le_refl _ | omega | (simp; done) | (simp; omega)) ?_ | refine Fa _ (by first | exact Nat.le_refl _ | omega | (simp; done) | (simp; omega)) ?_ | refine Fs _ ?_)))), HLS.out.same (Below.block (show Below W.heap.size W _ from (by repeat (first | (with_reducible first | exact Below.refl _ _ | assumption | refine Below.drew ?_) | ((with_reducible first | refine Lc ?_ ?_ _ | refine Ls ?_ ?_ _ | refine Lv (by assumption) ?_ ?_); · first | exact Nat.le_refl _ | omega | (dsimp only; omega) | (simp only [World.size_alloc, World.size_drew, World.heap_drewN]; omega) | (simp; omega))))) _ hlt), by first | exact Nat.le_refl _ | omega | (simp; done) | (simp; omega) | (simp at *; omega)⟩, (by (repeat' refine And.intro ?_ ?_) <;> (repeat (first | with_reducible assumption | (simp; done) | (with_reducible first | refine Kd ?_ | refine Kn ?_ | refine Kb (by assumption) ?_) | ((with_reducible first | refine Kw ?_ ?_ | refine Fw ?_) <;> first | with_reducible rfl | (simp; done)) | (with_reducible first | refine Ka _ ?_ | refine Ks _ (by first | exact Nat.le_refl _ | omega | (simp; done) | (simp; omega)) ?_ | refine Fd ?_ | refine Fn ?_ | refine Fb (by assumption) (by first | exact Nat.le_refl _ | omega | (simp; done) | (simp; omega)) ?_ | refine Fa _ (by first | exact Nat.le_refl _ | omega | (simp; done) | (simp; omega)) ?_ | refine Fs _ ?_)))), (by repeat (first | (with_reducible first | exact Below.refl _ _ | assumption | refine Below.drew ?_) | ((with_reducible first | refine Lc ?_ ?_ _ | refine Ls ?_ ?_ _ | refine Lv (by assumption) ?_ ?_); · first | exact Nat.le_refl _ | omega | (dsimp only; omega) | (simp only [World.size_alloc, World.size_drew, World.heap_drewN]; omega) | (simp; omega))))⟩ ?_
  rintro w1 ⟨hn1, d0, hb1⟩
  have HN := Lib.hid hn1
  have x0 := hn1.d
  have HB := Lib.hid hb1
  clear hn1 hb1 c0 HLS
  go_wp2_with fail
  clear x0 d0
  go_loopw [10, 19] (fun v i wr => ∃ k : Nat, k ≤ r.n ∧ i = .int .i64 k ∧ v = .int .i64 (widthN L f t p k) ∧ Hid (NrAt wr W.heap.size db r.n L f t p) ∧ Hid (Below W.heap.size W wr)) (fun _ i _ => r.n - (intOf i).toNat)
  case atStart => exact ⟨0, Nat.zero_le _, rfl, rfl, HN, HB⟩
  case round =>
    clear HN HB
    obtain ⟨k, hk, rfl, rfl, HN, HB⟩ := hrel
    by_cases hlt2 : k < r.n
    · have hkn : (k : Int) < (r.n : Int) := by omega
      have hk0 : (0 : Int) ≤ (k : Int) := by omega
      have ek : IntKind.i64.wrap ((k : Int) + 1) = ((k + 1 : Nat) : Int) := IntWalk.i64_in _ (by omega)
      obtain ⟨wo, rfl⟩ : ∃ wo, wo = wr := ⟨_, rfl⟩
      have b1 := nearN_bd (a := k) (b := k + 1) HL.out hf ht (by omega) (by omega) hp
      have b2 := nearN_bd (a := k + 1) (b := k) HL.out hf ht (by omega) (by omega) hp
      have b3 := widthN_bd HL.out hf ht hp k hk
      have HV : Hid (widthN L f t p (k + 1) = widthN L f t p k + nearN L f t p k (k + 1) + nearN L f t p (k + 1) k) := Lib.hid rfl
      go_wp2_with fail
      refine (near_any r.n hn L HL.out f t k (k + 1) p hf ht (by omega) (by omega) (by omega) W.heap.size db _ (HN.out.later (by repeat (first | (with_reducible first | exact Below.refl _ _ | assumption | refine Below.drew ?_) | ((with_reducible first | refine Lc ?_ ?_ _ | refine Ls ?_ ?_ _ | refine Lv (by assumption) ?_ ?_); · first | exact Nat.le_refl _ | omega | (dsimp only; omega) | (simp only [World.size_alloc, World.size_drew, World.heap_drewN]; omega) | (simp; omega)))))).mono ?_
      rintro e w2 ⟨rfl, hb2⟩
      have HN2 := Lib.hid (HN.out.later (show Below wo.heap.size wo w2 from (by repeat (first | (with_reducible first | exact Below.refl _ _ | assumption | refine Below.drew ?_) | ((with_reducible first | refine Lc ?_ ?_ _ | refine Ls ?_ ?_ _ | refine Lv (by assumption) ?_ ?_); · first | exact Nat.le_refl _ | omega | (dsimp only; omega) | (simp only [World.size_alloc, World.size_drew, World.heap_drewN]; omega) | (simp; omega))))))
      have HB2 := Lib.hid (HB.out.trans ((show Below wo.heap.size wo w2 from (by repeat (first | (with_reducible first | exact Below.refl _ _ | assumption | refine Below.drew ?_) | ((with_reducible first | refine Lc ?_ ?_ _ | refine Ls ?_ ?_ _ | refine Lv (by assumption) ?_ ?_); · first | exact Nat.le_refl _ | omega | (dsimp only; omega) | (simp only [World.size_alloc, World.size_drew, World.heap_drewN]; omega) | (simp; omega))))).mono HB.out.size))
      clear hb2
      go_wp2_with fail
      refine (near_any r.n hn L HL.out f t (k + 1) k p hf ht (by omega) (by omega) (by omega) W.heap.size db _ (HN2.out.later (by repeat (first | (with_reducible first | exact Below.refl _ _ | assumption | refine Below.drew ?_) | ((with_reducible first | refine Lc ?_ ?_ _ | refine Ls ?_ ?_ _ | refine Lv (by assumption) ?_ ?_); · first | exact Nat.le_refl _ | omega | (dsimp only; omega) | (simp only [World.size_alloc, World.size_drew, World.heap_drewN]; omega) | (simp; omega)))))).mono ?_
      rintro e w3 ⟨rfl, hb3⟩
      have HN3 := Lib.hid (HN2.out.later (show Below w2.heap.size w2 w3 from (by repeat (first | (with_reducible first | exact Below.refl _ _ | assumption | refine Below.drew ?_) | ((with_reducible first | refine Lc ?_ ?_ _ | refine Ls ?_ ?_ _ | refine Lv (by assumption) ?_ ?_); · first | exact Nat.le_refl _ | omega | (dsimp only; omega) | (simp only [World.size_alloc, World.size_drew, World.heap_drewN]; omega) | (simp; omega))))))
      have HB3 := Lib.hid (HB2.out.trans ((show Below w2.heap.size w2 w3 from (by repeat (first | (with_reducible first | exact Below.refl _ _ | assumption | refine Below.drew ?_) | ((with_reducible first | refine Lc ?_ ?_ _ | refine Ls ?_ ?_ _ | refine Lv (by assumption) ?_ ?_); · first | exact Nat.le_refl _ | omega | (dsimp only; omega) | (simp only [World.size_alloc, World.size_drew, World.heap_drewN]; omega) | (simp; omega))))).mono HB2.out.size))
      clear hb3 HN2 HB2 HN HB
      obtain ⟨s0, hs0⟩ : ∃ x, x = widthN L f t p k := ⟨_, rfl⟩
      obtain ⟨s1, hs1⟩ : ∃ x, x = nearN L f t p k (k + 1) := ⟨_, rfl⟩
      obtain ⟨s2, hs2⟩ : ∃ x, x = nearN L f t p (k + 1) k := ⟨_, rfl⟩
      rw [← hs0, ← hs1, ← hs2] at HV
      rw [← hs0] at b3 ⊢
      rw [← hs1] at b1 ⊢
      rw [← hs2] at b2 ⊢
      clear hs0 hs1 hs2
      go_wp2_with fail
      refine (sum3n w3 3 _ s0 s1 s2 (by omega) (by omega) (by omega)).mono ?_
      rintro e w4 ⟨rfl, rfl⟩
      have HB4 := Lib.hid (HB3.out.alloc HB3.out.size (.cells #[.int .i64 s0, .int .i64 s1, .int .i64 s2] 3))
      have HN4 := Lib.hid (HN3.out.later (w' := w3.alloc (.cells #[.int .i64 s0, .int .i64 s1, .int .i64 s2] 3)) (by repeat (first | (with_reducible first | exact Below.refl _ _ | assumption | refine Below.drew ?_) | ((with_reducible first | refine Lc ?_ ?_ _ | refine Ls ?_ ?_ _ | refine Lv (by assumption) ?_ ?_); · first | exact Nat.le_refl _ | omega | (dsimp only; omega) | (simp only [World.size_alloc, World.size_drew, World.heap_drewN]; omega) | (simp; omega)))))
      go_wp2_with fail
      go_roundw
      case rel => exact ⟨k + 1, by omega, by go_num, by rw [HV.out], HN4, HB4⟩
      case measure => simp [intOf]; omega
    · obtain rfl : k = r.n := by omega
      have hge : ¬ (r.n : Int) < (r.n : Int) := by omega
      go_wp2_with fail
      go_ret
      exact ⟨rfl, HB.out⟩
end Go.Proofs.YtnnikeolgknfoaaGreat
