/- Plain laws of BinLater: days added, the first day on which it is more, fractions. No program here. -/
import Derived.Test.YtnnikeolgknfoaaP1
import Derived.Test.YtnnikeolgknfoaaBz
import Derived.Test.YtnnikeolgknfoaaC6
set_option linter.unusedSimpArgs false
set_option linter.unusedVariables false
namespace Go.Proofs.Ytnnikeolgknfoaa

/-- so many further days of a kind -/
def Rw.days (r : Rw) (k : Int) (t : Nat) : Rw := { r with d := r.d + t, D := fun j => if j < r.d then r.D j else k }
theorem Rw.days_ok {r : Rw} (hr : r.ok) {k : Int} (hk : 0 ≤ k ∧ k ≤ 2) {t : Nat} (ht : r.d + t ≤ 7) : (r.days k t).ok :=
  ⟨hr.n1, hr.n6, ht, hr.m10, fun i hi => ⟨(hr.b i hi).g, (hr.b i hi).s.1, by
    have := (hr.b i hi).s.2
    show (r.B i).s ≤ ((r.d + t : Nat) : Int)
    omega⟩, fun i hi => hr.v i hi, fun j hj => by
    show 0 ≤ (if j < r.d then r.D j else k) ∧ (if j < r.d then r.D j else k) ≤ 2
    by_cases e : j < r.d
    · rw [if_pos e]; exact hr.k j e
    · rw [if_neg e]; exact hk⟩
theorem tot_days (x : Bn) (e D : Nat → Int) (d : Nat) (k : Int) (hs : x.s.toNat ≤ d) : ∀ t : Nat, x.tot e (fun j => if j < d then D j else k) (d + t - x.s.toNat) = x.tot e D (d - x.s.toNat) + t * e k.toNat
  | 0 => by
    have : x.tot e (fun j => if j < d then D j else k) (d + 0 - x.s.toNat) = x.tot e D (d - x.s.toNat) := sumN_congr (fun j hj => by
      dsimp only
      rw [if_pos (by omega)])
    rw [this]
    simp
  | t + 1 => by
    have ih := tot_days x e D d k hs t
    rw [show d + (t + 1) - x.s.toNat = (d + t - x.s.toNat) + 1 by omega]
    have h : x.tot e (fun j => if j < d then D j else k) (d + t - x.s.toNat + 1) = x.tot e (fun j => if j < d then D j else k) (d + t - x.s.toNat) + e (if x.s.toNat + (d + t - x.s.toNat) < d then D (x.s.toNat + (d + t - x.s.toNat)) else k).toNat := rfl
    rw [h, ih, if_neg (by omega), Int.natCast_add, Int.add_mul]
    simp
    omega
theorem Rw.sp_days {r : Rw} (hr : r.ok) (k : Int) (t : Nat) {i : Nat} (hi : i < r.n) : (r.days k t).sp i = ⟨(r.sp i).a + t * (r.B i).lo k.toNat, (r.sp i).b + t * (r.B i).hi k.toNat⟩ := by
  have hs := (hr.b i hi).s
  have h1 := tot_days (r.B i) (r.B i).lo r.D r.d k (by omega) t
  have h2 := tot_days (r.B i) (r.B i).hi r.D r.d k (by omega) t
  show (⟨(r.B i).tot (r.B i).lo (fun j => if j < r.d then r.D j else k) (r.d + t - (r.B i).s.toNat), (r.B i).tot (r.B i).hi (fun j => if j < r.d then r.D j else k) (r.d + t - (r.B i).s.toNat)⟩ : Sp) = _
  rw [h1, h2]
  rfl
/-- the first day -/
theorem untilN_spec (z y mo : Int) : ∀ k, (∃ n, untilN z y mo k = some n ∧ n < k ∧ mo < z + n * y ∧ ∀ j : Nat, j < n → ¬ mo < z + j * y) ∨ (untilN z y mo k = none ∧ ∀ j : Nat, j < k → ¬ mo < z + j * y)
  | 0 => .inr ⟨rfl, fun j hj => absurd hj (by omega)⟩
  | k + 1 => by
    rcases untilN_spec z y mo k with ⟨n, h1, h2, h3, h4⟩ | ⟨h1, h2⟩
    · exact .inl ⟨n, by unfold untilN; rw [h1], by omega, h3, h4⟩
    · by_cases h : mo < z + k * y
      · exact .inl ⟨k, by unfold untilN; rw [h1]; exact if_pos h, by omega, h, h2⟩
      · exact .inr ⟨by unfold untilN; rw [h1]; exact if_neg h, fun j hj => by
          by_cases e : j = k
          · rw [e]; exact h
          · exact h2 j (by omega)⟩
theorem untilR_yes {z y mo : Int} (hy : 0 ≤ y) {t : Nat} (ht : t ≤ 100) (h : mo < z + t * y) : untilR z y mo ≠ -1 ∧ untilR z y mo ≤ (t : Int) := by
  unfold untilR
  rcases untilN_spec z y mo 101 with ⟨n, h1, h2, h3, h4⟩ | ⟨h1, h2⟩
  · rw [h1]
    dsimp only
    have : n ≤ t := Nat.le_of_not_lt (fun hlt => h4 t hlt h)
    omega
  · exact absurd h (h2 t (by omega))
theorem untilR_no {z y mo : Int} (hy : 0 ≤ y) {t : Nat} (ht : t ≤ 100) (h : ¬ mo < z + t * y) : untilR z y mo = -1 ∨ (untilR z y mo ≠ -1 ∧ (t : Int) < untilR z y mo) := by
  unfold untilR
  rcases untilN_spec z y mo 101 with ⟨n, h1, h2, h3, h4⟩ | ⟨h1, h2⟩
  · rw [h1]
    dsimp only
    right
    have : t < n := Nat.lt_of_not_le (fun hle => h (Int.lt_of_lt_of_le h3 (by
      have := Int.mul_le_mul_of_nonneg_right (show (n : Int) ≤ (t : Int) by omega) hy
      omega)))
    omega
  · rw [h1]
    exact .inl rfl
/-- fractions in lowest terms -/
theorem ratP_of (n t : Nat) (ht : 1 ≤ t) : ∃ p q g : Nat, ratP n t = ((p : Int), (q : Int)) ∧ n = p * g ∧ t = q * g ∧ 1 ≤ q ∧ 1 ≤ g := by
  have hg : 1 ≤ Nat.gcd n t := Nat.gcd_pos_of_pos_right n ht
  have h2 := (Nat.div_mul_cancel (Nat.gcd_dvd_right n t)).symm
  refine ⟨n / Nat.gcd n t, t / Nat.gcd n t, Nat.gcd n t, rfl, (Nat.div_mul_cancel (Nat.gcd_dvd_left n t)).symm, h2, ?_, hg⟩
  rcases Nat.eq_zero_or_pos (t / Nat.gcd n t) with h | h
  · rw [h] at h2; omega
  · exact h
def lstN (x : Bn) (X : Nat → Int) : Nat → Int
  | 0 => 50
  | k + 1 => if 0 < X k then min (lstN x X k) (x.lo k) else lstN x X k
def grtN (x : Bn) (X : Nat → Int) : Nat → Int
  | 0 => 0
  | k + 1 => if 0 < X k then max (grtN x X k) (x.hi k) else grtN x X k
theorem lstN_bd {x : Bn} {X : Nat → Int} (hx : ∀ k, k < 3 → 0 ≤ x.lo k ∧ x.lo k ≤ x.hi k ∧ x.hi k ≤ 50) : ∀ k, k ≤ 3 → (0 ≤ lstN x X k ∧ lstN x X k ≤ 50) ∧ (0 ≤ grtN x X k ∧ grtN x X k ≤ 50) ∧ ∀ j, j < k → 0 < X j → lstN x X k ≤ x.lo j ∧ x.hi j ≤ grtN x X k
  | 0, _ => ⟨by unfold lstN; omega, by unfold grtN; omega, fun j hj => absurd hj (by omega)⟩
  | k + 1, hk => by
    obtain ⟨h1, h2, h3⟩ := lstN_bd (X := X) hx k (by omega)
    have h4 := hx k (by omega)
    unfold lstN grtN
    by_cases e : 0 < X k
    · rw [if_pos e, if_pos e]
      refine ⟨by omega, by omega, fun j hj hp => ?_⟩
      by_cases ej : j = k
      · rw [ej]; omega
      · have := h3 j (by omega) hp
        omega
    · rw [if_neg e, if_neg e]
      refine ⟨h1, h2, fun j hj hp => ?_⟩
      by_cases ej : j = k
      · rw [ej] at hp; exact absurd hp e
      · exact h3 j (by omega) hp
theorem mul_lst {u v w : Int} (hu : 0 ≤ u) (h : 0 < u → v ≤ w) : u * v ≤ u * w := by
  by_cases e : 0 < u
  · exact Int.mul_le_mul_of_nonneg_left (h e) hu
  · have : u = 0 := by omega
    rw [this]; simp
theorem mul_bd {u v a b : Int} (hu : 0 ≤ u ∧ u ≤ a) (hv : 0 ≤ v ∧ v ≤ b) (hb : 0 ≤ a) : 0 ≤ u * v ∧ u * v ≤ a * b := ⟨Int.mul_nonneg hu.1 hv.1, Int.mul_le_mul hu.2 hv.2 hv.1 hb⟩
theorem le_of_mul_g {a b : Int} {g : Nat} (hg : 1 ≤ g) (h : a * g ≤ b * g) : a ≤ b := Int.le_of_mul_le_mul_right h (by omega)
theorem le_mul_g {a : Nat} {g : Nat} (hg : 1 ≤ g) : (a : Int) ≤ (a : Int) * g := by
  have := Int.mul_le_mul_of_nonneg_left (show (1 : Int) ≤ (g : Int) by omega) (show (0 : Int) ≤ (a : Int) by omega)
  omega
theorem later_rats {x : Bn} {X : Nat → Int} (hX : ∀ k, k < 3 → 0 ≤ X k ∧ X k ≤ 9) (hp : 1 ≤ X 2) (hx : ∀ k, k < 3 → 0 ≤ x.lo k ∧ x.lo k ≤ x.hi k ∧ x.hi k ≤ 50) :
    ∃ p q p' q' : Int, ratP (exN x Sp.a X 3).toNat (sumN X 3).toNat = (p, q) ∧ ratP (exN x Sp.b X 3).toNat (sumN X 3).toNat = (p', q') ∧ (1 ≤ q ∧ q ≤ 27) ∧ (1 ≤ q' ∧ q' ≤ 27) ∧ (0 ≤ p ∧ p ≤ 1350) ∧ (0 ≤ p' ∧ p' ≤ 1350) ∧ p * q' ≤ p' * q ∧ lstN x X 3 * q ≤ p ∧ p' ≤ grtN x X 3 * q' := by
  have x0 := hX 0 (by omega); have x1 := hX 1 (by omega); have x2 := hX 2 (by omega)
  have y0 := hx 0 (by omega); have y1 := hx 1 (by omega); have y2 := hx 2 (by omega)
  obtain ⟨hl, hg, hlg⟩ := lstN_bd (X := X) hx 3 (by omega)
  obtain ⟨l, el⟩ : ∃ l, l = lstN x X 3 := ⟨_, rfl⟩
  obtain ⟨m, em⟩ : ∃ m, m = grtN x X 3 := ⟨_, rfl⟩
  rw [← el] at hl hlg ⊢
  rw [← em] at hg hlg ⊢
  have hT : sumN X 3 = X 0 + X 1 + X 2 := by simp [sumN]
  have hA : exN x Sp.a X 3 = X 0 * x.lo 0 + X 1 * x.lo 1 + X 2 * x.lo 2 := by simp [exN]
  have hB : exN x Sp.b X 3 = X 0 * x.hi 0 + X 1 * x.hi 1 + X 2 * x.hi 2 := by simp [exN]
  have a0 := mul_lst (u := X 0) x0.1 (fun h => (hlg 0 (by omega) h).1)
  have a1 := mul_lst (u := X 1) x1.1 (fun h => (hlg 1 (by omega) h).1)
  have a2 := mul_lst (u := X 2) x2.1 (fun h => (hlg 2 (by omega) h).1)
  have b0 := mul_lst (u := X 0) x0.1 (fun h => (hlg 0 (by omega) h).2)
  have b1 := mul_lst (u := X 1) x1.1 (fun h => (hlg 1 (by omega) h).2)
  have b2 := mul_lst (u := X 2) x2.1 (fun h => (hlg 2 (by omega) h).2)
  have c0 := mul_lst (u := X 0) x0.1 (fun _ => y0.2.1)
  have c1 := mul_lst (u := X 1) x1.1 (fun _ => y1.2.1)
  have c2 := mul_lst (u := X 2) x2.1 (fun _ => y2.2.1)
  have d0 := mul_bd (v := x.lo 0) (b := 50) x0 (by omega) (by omega)
  have d1 := mul_bd (v := x.lo 1) (b := 50) x1 (by omega) (by omega)
  have d2 := mul_bd (v := x.lo 2) (b := 50) x2 (by omega) (by omega)
  have e0 := mul_bd (v := x.hi 0) (b := 50) x0 (by omega) (by omega)
  have e1 := mul_bd (v := x.hi 1) (b := 50) x1 (by omega) (by omega)
  have e2 := mul_bd (v := x.hi 2) (b := 50) x2 (by omega) (by omega)
  obtain ⟨t, ht⟩ := Int.eq_ofNat_of_zero_le (show 0 ≤ sumN X 3 by omega)
  obtain ⟨n, hn⟩ := Int.eq_ofNat_of_zero_le (show 0 ≤ exN x Sp.a X 3 by omega)
  obtain ⟨n', hn'⟩ := Int.eq_ofNat_of_zero_le (show 0 ≤ exN x Sp.b X 3 by omega)
  rw [ht, hn, hn', Int.toNat_natCast, Int.toNat_natCast, Int.toNat_natCast]
  obtain ⟨p, q, g, r1, r2, r3, r4, r5⟩ := ratP_of n t (by omega)
  obtain ⟨p', q', g', s1, s2, s3, s4, s5⟩ := ratP_of n' t (by omega)
  have hlT : (X 0 + X 1 + X 2) * l ≤ (n : Int) := by rw [Int.add_mul, Int.add_mul]; omega
  have hmT : (n' : Int) ≤ (X 0 + X 1 + X 2) * m := by rw [Int.add_mul, Int.add_mul]; omega
  rw [show X 0 + X 1 + X 2 = (t : Int) by omega] at hlT hmT
  have hnn : (n : Int) ≤ (n' : Int) := by omega
  have ep : (n : Int) = (p : Int) * g := by rw [r2]; simp
  have eq : (t : Int) = (q : Int) * g := by rw [r3]; simp
  have ep' : (n' : Int) = (p' : Int) * g' := by rw [s2]; simp
  have eq' : (t : Int) = (q' : Int) * g' := by rw [s3]; simp
  have k1 := le_mul_g (a := p) r5
  have k2 := le_mul_g (a := q) r5
  have k3 := le_mul_g (a := p') s5
  have k4 := le_mul_g (a := q') s5
  refine ⟨p, q, p', q', r1, s1, by omega, by omega, by omega, by omega, ?_, ?_, ?_⟩
  · refine le_of_mul_g r5 (le_of_mul_g s5 ?_)
    have z1 : (p : Int) * q' * g * g' = (n : Int) * t := by rw [ep, eq']; ac_rfl
    have z2 : (p' : Int) * q * g * g' = (n' : Int) * t := by rw [ep', eq]; ac_rfl
    rw [z1, z2]
    exact Int.mul_le_mul_of_nonneg_right hnn (by omega)
  · refine le_of_mul_g r5 ?_
    rw [Int.mul_assoc, ← eq, ← ep, Int.mul_comm]
    exact hlT
  · refine le_of_mul_g s5 ?_
    rw [Int.mul_assoc, ← eq', ← ep', Int.mul_comm m]
    exact hmT
/-- a row without weighings -/
theorem Rw.bare_self {r : Rw} (h : r.m = 0) : r.bare = r := by
  cases r
  simp only at h
  subst h
  rfl
theorem Rw.round_zero {r : Rw} (hr : r.ok) (h : r.m = 0) : r.round = [] := by
  have := Rw.bare_round hr
  rw [Rw.bare_self h] at this
  exact this
theorem Rw.span_self {r : Rw} (hr : r.ok) (h : r.m = 0) {b : Nat} (hb : b < r.n) : r.span b b = r.sp b := by
  have := Rw.bare_span hr (a := b) (k := 0) (by omega)
  rw [Rw.bare_self h] at this
  exact Eq.trans (this : r.span b b = _) (by simp [sumN])
theorem Rw.bins_zero {r : Rw} {b : Nat} (hb : b < r.n) : r.binsErr b b = 0 := by
  unfold Rw.binsErr
  rw [if_neg (by simp only [inB]; simp; omega), if_neg (by omega)]
theorem Rw.until_zero {r : Rw} (hr : r.ok) (h : r.m = 0) {b k : Nat} (hb : b < r.n) (hk : k < 3) {mo : Int} (hmo : 0 ≤ mo ∧ mo ≤ 3000) : r.untilErr b k mo = 0 := by
  unfold Rw.untilErr
  rw [if_neg (by rw [Rw.check_ok.2 hr]; decide), if_neg (by rw [Rw.bins_zero hb]; simp [inB]; omega), if_neg (by simp [inB]; omega), if_pos (by rw [Rw.round_zero hr h]; rfl)]
theorem Rw.until_is {r : Rw} (hr : r.ok) (h : r.m = 0) {b k : Nat} (hb : b < r.n) (hk : k < 3) {mo : Int} (hmo : 0 ≤ mo ∧ mo ≤ 3000) : r.untilS b k mo = ⟨untilR (r.sp b).b ((r.B b).hi k) mo, untilR (r.sp b).a ((r.B b).lo k) mo⟩ := by
  unfold Rw.untilS
  rw [if_pos (Rw.until_zero hr h hb hk hmo), Int.toNat_natCast, Int.toNat_natCast, Rw.span_self hr h hb]
theorem Rw.exp_zero {r : Rw} (hr : r.ok) {b : Nat} (hb : b < r.n) {X : Nat → Int} (hX : ∀ k, k < 3 → 0 ≤ X k ∧ X k ≤ 9) (hp : 1 ≤ X 2) : r.expErr b 3 X = 0 := by
  have x0 := hX 0 (by omega); have x1 := hX 1 (by omega)
  unfold Rw.expErr
  rw [if_neg (by rw [Rw.check_ok.2 hr]; decide), if_neg (by rw [Rw.bins_zero hb]; decide), if_neg (by decide), if_neg ?_, if_neg (by simp [sumN]; omega)]
  have : allN (fun k => inB (X k) 0 100) 3 = true := allN_iff.2 (fun k hk => by have := hX k hk; simp [inB]; omega)
  rw [this]
  decide
end Go.Proofs.Ytnnikeolgknfoaa
