/- Plain laws of BinSettled: an exact weighing more, the width, the least width. No program here. -/
import Derived.Test.YtnnikeolgknfoaaG0
import Derived.Test.YtnnikeolgknfoaaE3
import Derived.Test.YtnnikeolgknfoaaBw
set_option linter.unusedSimpArgs false
set_option linter.unusedVariables false
namespace Go.Proofs.Ytnnikeolgknfoaa

/-- the width of a row's first bins -/
def widO (L : Nat → Nat → Int) : Nat → Int
  | 0 => 0
  | k + 1 => widO L k + (L k (k + 1) - -L (k + 1) k)
def Rw.wid (r : Rw) : Int := widO r.search.1.L r.n
theorem near_fits {r : Rw} (hr : r.ok) {L : Nat → Nat → Int} {F : Nat → Nat → Fc} (h : Fin r L F) {f t : Nat} (hft : f ≤ t) (ht : t < r.n) {k : Int} (hk : -L (t + 1) f ≤ k ∧ k ≤ L f (t + 1)) {a : Nat} (ha : a ≤ r.n) :
    r.fits (byPre (nearN L f t k a)) ∧ nearN L f t k a (t + 1) - nearN L f t k a f = k ∧ nearN L f t k a a = 0 := by
  have z1 := h.z (t + 1) (by omega)
  have z2 := h.z f (by omega)
  have z3 := h.z a ha
  have t1 := h.t a f (t + 1) ha (by omega) (by omega)
  have t2 := h.t a (t + 1) f ha (by omega) (by omega)
  have t3 := h.t (t + 1) f a (by omega) (by omega) ha
  have t4 := h.t f (t + 1) a (by omega) (by omega) ha
  refine ⟨fun g hg => ?_, ?_, ?_⟩
  · obtain ⟨h1, h2, _⟩ := Rw.ab_bd hr hg
    unfold Rw.so
    rw [pre_by, pre_by]
    have e := h.e g hg
    have u1 := h.t a (r.b g) (r.a g) ha h2 h1
    have u2 := h.t (t + 1) (r.b g) (r.a g) (by omega) h2 h1
    have u3 := h.t f (r.b g) (r.a g) (by omega) h2 h1
    unfold nearN
    omega
  · unfold nearN
    omega
  · unfold nearN
    omega
theorem exact_fits {r : Rw} (hr : r.ok) {f t : Nat} (hft : f ≤ t) {k : Int} {X : Nat → Int} (hX : r.fits X) (hk : pre X (t + 1) - pre X f = k) : (r.more ⟨f, t, k, 0⟩).fits X :=
  Rw.fits_of (fun i hi => Rw.fits_sp hr hX hi) (fun i hi => by
    show ((if i = r.m then (⟨f, t, k, 0⟩ : Wg) else r.V i).p - (if i = r.m then (⟨f, t, k, 0⟩ : Wg) else r.V i).e ≤ pre X ((if i = r.m then (⟨f, t, k, 0⟩ : Wg) else r.V i).t.toNat + 1) - pre X (if i = r.m then (⟨f, t, k, 0⟩ : Wg) else r.V i).f.toNat ∧ _)
    by_cases e : i = r.m
    · have e2 : (r.more ⟨f, t, k, 0⟩).V i = ⟨f, t, k, 0⟩ := if_pos e
      rw [e2, if_pos e]
      simp only [Int.toNat_natCast]
      omega
    · have e2 : (r.more ⟨f, t, k, 0⟩).V i = r.V i := if_neg e
      rw [e2, if_neg e]
      have : i < r.m + 1 := hi
      exact Rw.fits_wg hr hX (by omega)) (fun i hi => by
    show 0 ≤ (if i = r.m then (⟨f, t, k, 0⟩ : Wg) else r.V i).t
    by_cases e : i = r.m
    · rw [if_pos e]
      show (0 : Int) ≤ (t : Int)
      omega
    · rw [if_neg e]
      have : i < r.m + 1 := hi
      have := hr.v i (by omega)
      exact Int.le_trans this.f this.ft)
theorem exact_of {r : Rw} (hr : r.ok) {f t : Nat} {k : Int} (hr' : (r.more ⟨f, t, k, 0⟩).ok) {X : Nat → Int} (hX : (r.more ⟨f, t, k, 0⟩).fits X) : r.fits X ∧ pre X (t + 1) - pre X f = k := by
  refine ⟨(Rw.sub_more r _).fits hr hr' hX, ?_⟩
  have h := Rw.fits_wg hr' hX (i := r.m) (by show r.m < r.m + 1; omega)
  have e2 : (r.more ⟨f, t, k, 0⟩).V r.m = ⟨f, t, k, 0⟩ := if_pos rfl
  rw [e2] at h
  simp only [Int.toNat_natCast] at h
  omega
theorem exact_ok {r : Rw} (hr : r.ok) (hm : r.m < 10) {f t : Nat} (hft : f ≤ t) (ht : t < r.n) {k : Int} (hk : 0 ≤ k ∧ k ≤ 3000) : (r.more ⟨f, t, k, 0⟩).ok :=
  Rw.more_ok hr hm ⟨hk, by show (0 : Int) ≤ 0 ∧ (0 : Int) ≤ 100; omega, by show (0 : Int) ≤ (f : Int); omega, by show (f : Int) ≤ (t : Int); omega, by show (t : Int) < (r.n : Int); omega⟩
theorem exact_round {r : Rw} (hr : r.ok) {L : Nat → Nat → Int} {F : Nat → Nat → Fc} (h : Fin r L F) {f t : Nat} (hft : f ≤ t) (ht : t < r.n) {k : Int} (hk : -L (t + 1) f ≤ k ∧ k ≤ L f (t + 1)) (hr' : (r.more ⟨f, t, k, 0⟩).ok) : (r.more ⟨f, t, k, 0⟩).round = [] := by
  obtain ⟨h1, h2, h3⟩ := near_fits hr h hft ht hk (a := 0) (by omega)
  exact Rw.fits_round hr' (exact_fits hr hft h1 (by rw [pre_by, pre_by]; omega))
theorem exact_L {r : Rw} (hr : r.ok) {L : Nat → Nat → Int} {F : Nat → Nat → Fc} (h : Fin r L F) {f t : Nat} (hft : f ≤ t) (ht : t < r.n) {k : Int} (hk : -L (t + 1) f ≤ k ∧ k ≤ L f (t + 1)) (hr' : (r.more ⟨f, t, k, 0⟩).ok) {L' : Nat → Nat → Int} {F' : Nat → Nat → Fc} (h' : Fin (r.more ⟨f, t, k, 0⟩) L' F') {a b : Nat} (ha : a ≤ r.n) (hb : b ≤ r.n) : L' a b = nearN L f t k a b := by
  obtain ⟨h1, h2, h3⟩ := near_fits hr h hft ht hk ha
  have lo := h'.bound (exact_fits hr hft h1 (by rw [pre_by, pre_by]; omega)) (a := a) (b := b) ha hb
  rw [pre_by, pre_by, h3] at lo
  obtain ⟨g1, g2⟩ := exact_of hr hr' (h'.fits_from hr' (s := a) ha)
  have u1 := h.bound g1 (a := a) (b := b) ha hb
  have u2 := h.bound g1 (a := a) (b := f) ha (by omega)
  have u3 := h.bound g1 (a := t + 1) (b := b) (by omega) hb
  have u4 := h.bound g1 (a := a) (b := t + 1) ha (by omega)
  have u5 := h.bound g1 (a := f) (b := b) (by omega) hb
  have z := h'.z a ha
  rw [pre_by, pre_by] at u1 u2 u3 u4 u5 g2
  unfold nearN at lo ⊢
  omega
theorem widO_near {r : Rw} {L L' : Nat → Nat → Int} {f t : Nat} {k : Int} (h : ∀ a b, a ≤ r.n → b ≤ r.n → L' a b = nearN L f t k a b) : ∀ m, m ≤ r.n → widO L' m = widthN L f t k m
  | 0, _ => rfl
  | m + 1, hm => by
    unfold widO widthN
    rw [widO_near h m (by omega), h m (m + 1) (by omega) hm, h (m + 1) m hm (by omega)]
    omega
theorem exact_wid {r : Rw} (hr : r.ok) {L : Nat → Nat → Int} {F : Nat → Nat → Fc} (h : Fin r L F) {f t : Nat} (hft : f ≤ t) (ht : t < r.n) {k : Int} (hk : -L (t + 1) f ≤ k ∧ k ≤ L f (t + 1)) (hr' : (r.more ⟨f, t, k, 0⟩).ok) : (r.more ⟨f, t, k, 0⟩).wid = widthN L f t k r.n :=
  widO_near (r := r) (fun a b ha hb => exact_L hr h hft ht hk hr' (Rw.fin_nil hr' (exact_round hr h hft ht hk hr')) ha hb) r.n (Nat.le_refl _)
theorem widthN_le {L : Nat → Nat → Int} {f t : Nat} {k : Int} : ∀ m, widthN L f t k m ≤ widO L m
  | 0 => Int.le_refl _
  | m + 1 => by
    have := widthN_le (L := L) (f := f) (t := t) (k := k) m
    unfold widthN widO nearN
    omega
theorem widO_pos {r : Rw} {L : Nat → Nat → Int} {F : Nat → Nat → Fc} (h : Fin r L F) : ∀ m, m ≤ r.n → 0 ≤ widO L m ∧ widO L m ≤ 4200 * (m : Int)
  | 0, _ => by simp [widO]
  | m + 1, hm => by
    have := widO_pos h m (by omega)
    have := h.pos (f := m) (t := m + 1) (by omega) hm
    have := h.d m (m + 1) (by omega) hm
    have := h.d (m + 1) m hm (by omega)
    unfold widO
    omega
theorem settlesN_le {r : Rw} {L : Nat → Nat → Int} {F : Nat → Nat → Fc} (h : Fin r L F) {f t : Nat} : ∀ k, settlesN L f t r.n k ≤ widO L r.n
  | 0 => (widO_pos h r.n (Nat.le_refl _)).1
  | k + 1 => by
    have := settlesN_le h (f := f) (t := t) k
    have := widthN_le (L := L) (f := f) (t := t) (k := -L (t + 1) f + k) r.n
    unfold settlesN
    omega
theorem settled_bd {r : Rw} (hr : r.ok) {L : Nat → Nat → Int} {F : Nat → Nat → Fc} (h : Fin r L F) {f t : Nat} (hf : f < r.n) (ht : t < r.n) : 0 ≤ settled L f t r.n ∧ settled L f t r.n ≤ widO L r.n ∧ settled L f t r.n ≤ 120000 := by
  have hp := h.pos (f := f) (t := t + 1) (by omega) (by omega)
  have h1 := settlesN_bd hr.n6 h.bd hf ht (L f (t + 1) + L (t + 1) f + 1).toNat (by omega)
  exact ⟨h1.1, settlesN_le h _, h1.2⟩
/-- the bins that leave least -/
def nxGood (L : Nat → Nat → Int) (n : Nat) (x : Nat × Nat × Int) (P : Nat → Nat → Prop) : Prop :=
  (x = (0, 0, far) ∧ ∀ a b, ¬ P a b) ∨ (x.1 ≤ x.2.1 ∧ x.2.1 < n ∧ x.2.2 = settled L x.1 x.2.1 n ∧ ∀ a b, P a b → x.2.2 ≤ settled L a b n)
theorem nxGood.step {L : Nat → Nat → Int} {n : Nat} {x : Nat × Nat × Int} {P P' : Nat → Nat → Prop} {a b : Nat} (h : nxGood L n x P) (hab : a ≤ b) (hb : b < n) (hs : settled L a b n < far) (hP : ∀ u v, P' u v → P u v ∨ (u = a ∧ v = b)) : nxGood L n (nxStep L n a b x) P' := by
  unfold nxStep
  by_cases e : settled L a b n < x.2.2
  · rw [if_pos e]
    right
    refine ⟨hab, hb, rfl, fun u v huv => ?_⟩
    show settled L a b n ≤ _
    rcases hP u v huv with h1 | ⟨rfl, rfl⟩
    · rcases h with ⟨_, h2⟩ | ⟨_, _, _, h2⟩
      · exact absurd h1 (h2 u v)
      · have := h2 u v h1
        omega
    · exact Int.le_refl _
  · rw [if_neg e]
    rcases h with ⟨h1, h2⟩ | ⟨h1, h2, h3, h4⟩
    · rw [h1] at e
      exact absurd hs e
    · right
      refine ⟨h1, h2, h3, fun u v huv => ?_⟩
      rcases hP u v huv with h5 | ⟨rfl, rfl⟩
      · exact h4 u v h5
      · omega
theorem nxRow_good {L : Nat → Nat → Int} {n a : Nat} (hs : ∀ u v, u ≤ v → v < n → settled L u v n < far) (ha : a < n) {x : Nat × Nat × Int} (h : nxGood L n x (fun u v => u < a ∧ u ≤ v ∧ v < n)) : ∀ k, a + k ≤ n → nxGood L n (nxRow L n a x k) (fun u v => (u < a ∧ u ≤ v ∧ v < n) ∨ (u = a ∧ a ≤ v ∧ v < a + k))
  | 0, _ => by
    show nxGood L n x _
    rcases h with ⟨h1, h2⟩ | ⟨h1, h2, h3, h4⟩
    · exact .inl ⟨h1, fun u v huv => by
        rcases huv with h5 | h5
        · exact h2 u v h5
        · omega⟩
    · exact .inr ⟨h1, h2, h3, fun u v huv => by
        rcases huv with h5 | h5
        · exact h4 u v h5
        · omega⟩
  | k + 1, hk => by
    have ih := nxRow_good hs ha h k (by omega)
    show nxGood L n (nxStep L n a (a + k) (nxRow L n a x k)) _
    exact ih.step (by omega) (by omega) (hs _ _ (by omega) (by omega)) (fun u v huv => by
      rcases huv with h5 | ⟨h5, h6, h7⟩
      · exact .inl (.inl h5)
      · by_cases e : v = a + k
        · exact .inr ⟨h5, e⟩
        · exact .inl (.inr ⟨h5, h6, by omega⟩))
theorem nxAll_good {L : Nat → Nat → Int} {n : Nat} (hs : ∀ u v, u ≤ v → v < n → settled L u v n < far) : ∀ a, a ≤ n → nxGood L n (nxAll L n a) (fun u v => u < a ∧ u ≤ v ∧ v < n)
  | 0, _ => .inl ⟨rfl, fun u v h => by omega⟩
  | a + 1, ha => by
    have ih := nxRow_good hs (by omega) (nxAll_good hs a (by omega)) (n - a) (by omega)
    show nxGood L n (nxRow L n a (nxAll L n a) (n - a)) _
    rcases ih with ⟨h1, h2⟩ | ⟨h1, h2, h3, h4⟩
    · exact absurd (.inr ⟨rfl, Nat.le_refl _, by omega⟩) (h2 a a)
    · exact .inr ⟨h1, h2, h3, fun u v huv => h4 u v (by
        by_cases e : u = a
        · exact .inr ⟨e, by omega, by omega⟩
        · exact .inl ⟨by omega, huv.2.1, huv.2.2⟩)⟩
theorem Rw.next_good {r : Rw} (hr : r.ok) (h0 : r.round = []) : r.nextR.1 ≤ r.nextR.2.1 ∧ r.nextR.2.1 < r.n ∧ r.nextR.2.2 = settled r.search.1.L r.nextR.1 r.nextR.2.1 r.n ∧ ∀ a b, a ≤ b → b < r.n → r.nextR.2.2 ≤ settled r.search.1.L a b r.n := by
  have hf := Rw.fin_nil hr h0
  have e : r.nextR = nxAll r.search.1.L r.n r.n := by unfold Rw.nextR; rw [if_pos (Rw.fit_zero hr h0)]
  rw [e]
  rcases nxAll_good (L := r.search.1.L) (n := r.n) (fun u v huv hv => by have := (settled_bd hr hf (f := u) (t := v) (by omega) hv).2.2; unfold far; omega) r.n (Nat.le_refl _) with ⟨_, h2⟩ | ⟨h1, h2, h3, h4⟩
  · exact absurd ⟨hr.n1, Nat.le_refl _, hr.n1⟩ (h2 0 0)
  · exact ⟨h1, h2, h3, fun a b hab hb => h4 a b ⟨by omega, hab, hb⟩⟩
/-- all bins weighed exactly -/
def Rw.alls (r : Rw) (X : Nat → Int) : Nat → Rw
  | 0 => r
  | k + 1 => (r.alls X k).more ⟨k, k, X k, 0⟩
theorem Rw.alls_n (r : Rw) (X : Nat → Int) : ∀ k, (r.alls X k).n = r.n ∧ (r.alls X k).m = r.m + k
  | 0 => ⟨rfl, rfl⟩
  | k + 1 => by
    obtain ⟨h1, h2⟩ := Rw.alls_n r X k
    exact ⟨h1, by show (r.alls X k).m + 1 = _; omega⟩
theorem Rw.alls_d (r : Rw) (X : Nat → Int) : ∀ k, (r.alls X k).d = r.d
  | 0 => rfl
  | k + 1 => Rw.alls_d r X k
theorem Rw.alls_ok {r : Rw} (hr : r.ok) {X : Nat → Int} (hX : r.fits X) (h3 : ∀ k, k < r.n → 0 ≤ X k ∧ X k ≤ 3000) : ∀ k, k ≤ r.n → r.m + k ≤ 10 → (r.alls X k).ok ∧ (r.alls X k).fits X ∧ ∀ Y, (r.alls X k).fits Y → r.fits Y ∧ ∀ j, j < k → Y j = X j
  | 0, _, _ => ⟨hr, hX, fun Y hY => ⟨hY, fun j hj => absurd hj (by omega)⟩⟩
  | k + 1, hk, hm => by
    obtain ⟨h1, h2, h4⟩ := Rw.alls_ok hr hX h3 k (by omega) (by omega)
    have hn := Rw.alls_n r X k
    have e : pre X (k + 1) - pre X k = X k := by unfold pre; simp only [sumN]; omega
    have ho : ((r.alls X k).more ⟨k, k, X k, 0⟩).ok := exact_ok h1 (by omega) (Nat.le_refl _) (by omega) (h3 k (by omega))
    refine ⟨ho, exact_fits h1 (Nat.le_refl _) h2 e, fun Y hY => ?_⟩
    obtain ⟨g1, g2⟩ := exact_of h1 ho hY
    obtain ⟨g3, g4⟩ := h4 Y g1
    refine ⟨g3, fun j hj => ?_⟩
    by_cases ej : j = k
    · have e2 : pre Y (k + 1) - pre Y k = Y k := by unfold pre; simp only [sumN]; omega
      rw [ej]
      omega
    · exact g4 j (by omega)
theorem widO_zero {L : Nat → Nat → Int} : ∀ m, (∀ k, k < m → L k (k + 1) + L (k + 1) k = 0) → widO L m = 0
  | 0, _ => rfl
  | m + 1, h => by
    have := widO_zero m (fun k hk => h k (by omega))
    have := h m (by omega)
    unfold widO
    omega
theorem Rw.alls_wid {r : Rw} (hr : r.ok) {X : Nat → Int} (hX : r.fits X) (h3 : ∀ k, k < r.n → 0 ≤ X k ∧ X k ≤ 3000) (hm : r.m + r.n ≤ 10) : (r.alls X r.n).round = [] ∧ (r.alls X r.n).wid = 0 := by
  obtain ⟨h1, h2, h4⟩ := Rw.alls_ok hr hX h3 r.n (Nat.le_refl _) hm
  have hn := Rw.alls_n r X r.n
  have h0 := Rw.fits_round h1 h2
  have hf := Rw.fin_nil h1 h0
  refine ⟨h0, ?_⟩
  show widO _ (r.alls X r.n).n = 0
  rw [hn.1]
  refine widO_zero r.n (fun k hk => ?_)
  have z1 := hf.z k (by omega)
  have z2 := hf.z (k + 1) (by omega)
  have g1 := (h4 _ (hf.fits_from h1 (s := k) (by omega))).2 k hk
  have g2 := (h4 _ (hf.fits_from h1 (s := k + 1) (by omega))).2 k hk
  simp only [byPre] at g1 g2
  omega
/-- spans of rows that are made are small -/
theorem sumN_gap {f g : Nat → Int} {c : Int} : ∀ k, (∀ j, j < k → g j - f j ≤ c) → sumN g k - sumN f k ≤ c * k
  | 0, _ => by simp [sumN]
  | k + 1, h => by
    have ih := sumN_gap k (fun j hj => h j (by omega))
    have := h k (by omega)
    show sumN g k + g k - (sumN f k + f k) ≤ c * ((k + 1 : Nat) : Int)
    rw [Int.natCast_add, Int.mul_add]
    simp
    omega
theorem tot_diff {x : Bn} {D : Nat → Int} (hx : ∀ k, k < 3 → x.hi k ≤ x.lo k + 8) : ∀ k : Nat, (∀ j, j < k → 0 ≤ D (x.s.toNat + j) ∧ D (x.s.toNat + j) ≤ 2) → x.tot x.hi D k - x.tot x.lo D k ≤ 8 * k
  | 0, _ => by simp [Bn.tot, sumN]
  | k + 1, h => by
    have ih := tot_diff hx k (fun j hj => h j (by omega))
    have h1 := h k (by omega)
    have h2 := hx (D (x.s.toNat + k)).toNat (by omega)
    have e1 : x.tot x.hi D (k + 1) = x.tot x.hi D k + x.hi (D (x.s.toNat + k)).toNat := rfl
    have e2 : x.tot x.lo D (k + 1) = x.tot x.lo D k + x.lo (D (x.s.toNat + k)).toNat := rfl
    rw [e1, e2]
    omega
theorem made_small {nb wb : Int} {r : Rw} {X : Nat → Int} (h : MadeRw nb wb r X) {i : Nat} (hi : i < r.n) : (r.sp i).b - (r.sp i).a ≤ 32 := by
  have hg := h.b i hi
  have hd := h.d
  have := tot_diff (x := r.B i) (D := r.D) (fun k hk => (hg.1 k hk).2.2) (r.d - (r.B i).s.toNat) (fun j hj => h.k _ (by have := hg.2; omega))
  show (r.B i).tot (r.B i).hi r.D (r.d - (r.B i).s.toNat) - (r.B i).tot (r.B i).lo r.D (r.d - (r.B i).s.toNat) ≤ 32
  omega
theorem sumN_pos {f : Nat → Int} : ∀ k, (∀ j, j < k → 0 ≤ f j) → 0 ≤ sumN f k
  | 0, _ => Int.le_refl _
  | k + 1, h => by
    have := sumN_pos k (fun j hj => h j (by omega))
    have := h k (by omega)
    show 0 ≤ sumN f k + f k
    omega
theorem made_span {r : Rw} {X : Nat → Int} (h : MadeRw 4 4 r X) {a L : Nat} (hb : a + L < r.n) : 0 ≤ (r.span a (a + L)).a ∧ (r.span a (a + L)).b ≤ 2100 ∧ (r.span a (a + L)).b - (r.span a (a + L)).a ≤ 128 ∧ (r.span a (a + L)).a ≤ (r.span a (a + L)).b := by
  have hok := h.ok (by omega) (by omega)
  have h0 := h.round (by omega) (by omega)
  have hf := Rw.fin_nil hok h0
  have hs := hf.sums hok a (L + 1) (by omega)
  have h4 := h.n.2
  have d1 := hf.d a (a + L + 1) (by omega) (by omega)
  have p1 := hf.pos (f := a) (t := a + L + 1) (by omega) (by omega)
  have s1 := sumN_pos (f := fun j => (r.sp (a + j)).a) (L + 1) (fun j hj => (Rw.sp_bd hok (show a + j < r.n by omega)).1)
  have s2 := sumN_gap (f := fun j => (r.sp (a + j)).a) (g := fun j => (r.sp (a + j)).b) (c := 32) (L + 1) (fun j hj => made_small h (show a + j < r.n by omega))
  have e : a + (L + 1) = a + L + 1 := rfl
  rw [e] at hs
  show 0 ≤ -r.search.1.L (a + L + 1) a ∧ r.search.1.L a (a + L + 1) ≤ 2100 ∧ r.search.1.L a (a + L + 1) - -r.search.1.L (a + L + 1) a ≤ 128 ∧ -r.search.1.L (a + L + 1) a ≤ r.search.1.L a (a + L + 1)
  omega
end Go.Proofs.Ytnnikeolgknfoaa
