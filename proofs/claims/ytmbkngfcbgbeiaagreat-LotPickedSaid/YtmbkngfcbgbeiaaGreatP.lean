/- Plain words: pickings, grades, stores, bags of four numbers; sums. No program here. -/
namespace Go.Proofs.YtmbkngfcbgbeiaaGreat

/-- the sum of the first n numbers -/
def sumN (f : Nat → Int) : Nat → Int
  | 0 => 0
  | n + 1 => sumN f n + f n

theorem sumN_bd (f : Nat → Int) (n : Nat) (h : ∀ k, k < n → -1000000 ≤ f k ∧ f k ≤ 1000000) : -1000000 * (n : Int) ≤ sumN f n ∧ sumN f n ≤ 1000000 * (n : Int) := by
  induction n with
  | zero => simp [sumN]
  | succ n ih =>
    have h1 := ih (fun k hk => h k (by omega))
    have h2 := h n (by omega)
    simp only [sumN]
    omega
theorem sumN_bd2 (f : Nat → Int) (n : Nat) (c : Int) (h : ∀ k, k < n → 0 ≤ f k ∧ f k ≤ c) : 0 ≤ sumN f n ∧ sumN f n ≤ c * (n : Int) := by
  induction n with
  | zero => simp [sumN]
  | succ n ih =>
    have h1 := ih (fun k hk => h k (by omega))
    have h2 := h n (by omega)
    simp only [sumN]
    have e : c * ((n + 1 : Nat) : Int) = c * (n : Int) + c := by rw [Int.natCast_add, Int.mul_add]; simp
    rw [e]; omega
theorem sumN_bdh (f : Nat → Int) (n : Nat) (h : ∀ k, k < n → -100 ≤ f k ∧ f k ≤ 100) : -100 * (n : Int) ≤ sumN f n ∧ sumN f n ≤ 100 * (n : Int) := by
  induction n with
  | zero => simp [sumN]
  | succ n ih =>
    have h1 := ih (fun k hk => h k (by omega))
    have h2 := h n (by omega)
    simp only [sumN]
    omega
theorem sumN_congr {f g : Nat → Int} {n : Nat} (h : ∀ k, k < n → f k = g k) : sumN f n = sumN g n := by
  induction n with
  | zero => rfl
  | succ n ih => simp only [sumN]; rw [ih (fun k hk => h k (by omega)), h n (by omega)]
theorem sumN_le {f g : Nat → Int} {n : Nat} (h : ∀ k, k < n → f k ≤ g k) : sumN f n ≤ sumN g n := by
  induction n with
  | zero => exact Int.le_refl _
  | succ n ih => simp only [sumN]; have := ih (fun k hk => h k (by omega)); have := h n (by omega); omega
theorem sumN_add (f g : Nat → Int) (n : Nat) : sumN (fun k => f k + g k) n = sumN f n + sumN g n := by
  induction n with
  | zero => rfl
  | succ n ih => simp only [sumN]; omega
theorem sumN_zero {f : Nat → Int} {n : Nat} (h : ∀ k, k < n → f k = 0) : sumN f n = 0 := by
  induction n with
  | zero => rfl
  | succ n ih => simp only [sumN]; rw [ih (fun k hk => h k (by omega)), h n (by omega)]; rfl

/-- a picking: sacks, at most so many foul, opened, found foul -/
structure Pk where
  s : Int
  w : Int
  o : Int
  f : Int
/-- its numbers are allowed -/
def Pk.rng (p : Pk) : Prop := (0 ≤ p.s ∧ p.s ≤ 6) ∧ (0 ≤ p.w ∧ p.w ≤ p.s) ∧ (0 ≤ p.o ∧ p.o ≤ p.s) ∧ 0 ≤ p.f ∧ p.f ≤ p.o
/-- the greatest number of foul sacks; the least one is f -/
def Pk.hi (p : Pk) : Int := min p.w (p.s - p.o + p.f)
/-- at either end, of many sacks of it -/
def Pk.hiOf (p : Pk) (many : Int) : Int := min many p.hi
def Pk.loOf (p : Pk) (many : Int) : Int := max 0 (p.f - (p.s - many))

structure Gd where
  foul : Int
  price : Int
def Gd.rng (g : Gd) : Prop := (0 ≤ g.foul ∧ g.foul ≤ 100) ∧ 1 ≤ g.price ∧ g.price ≤ 100

/-- a store -/
structure St where
  n : Nat
  P : Nat → Pk
  m : Nat
  G : Nat → Gd
  lots : Int

/-- a right store -/
structure St.ok (st : St) : Prop where
  n1 : 1 ≤ st.n
  n4 : st.n ≤ 4
  m4 : st.m ≤ 4
  pk : ∀ k, k < st.n → (st.P k).rng
  gd : ∀ k, k < st.m → (st.G k).rng
  l0 : 0 ≤ st.lots
  l3 : st.lots ≤ 3
  up : ∀ k, k + 1 < st.m → (st.G k).foul < (st.G (k + 1)).foul ∧ (st.G (k + 1)).price < (st.G k).price
  sp : ∀ k, k < st.n → (st.P k).f ≤ (st.P k).hi

/-- four numbers -/
structure Bag where
  a : Int
  b : Int
  c : Int
  d : Int
  deriving DecidableEq
def Bag.at (x : Bag) : Nat → Int
  | 0 => x.a
  | 1 => x.b
  | 2 => x.c
  | 3 => x.d
  | _ => 0
def Bag.size (x : Bag) : Int := x.a + x.b + x.c + x.d
/-- each number from 0 to those of another -/
def Bag.in_ (x y : Bag) : Prop := (0 ≤ x.a ∧ x.a ≤ y.a) ∧ (0 ≤ x.b ∧ x.b ≤ y.b) ∧ (0 ≤ x.c ∧ x.c ≤ y.c) ∧ 0 ≤ x.d ∧ x.d ≤ y.d
theorem Bag.in_at {x y : Bag} (h : x.in_ y) : ∀ k, 0 ≤ x.at k ∧ x.at k ≤ y.at k
  | 0 => h.1
  | 1 => h.2.1
  | 2 => h.2.2.1
  | 3 => h.2.2.2
  | n + 4 => by simp [Bag.at]
/-- all sacks of a store -/
def St.all (st : St) : Bag := ⟨if 0 < st.n then (st.P 0).s else 0, if 1 < st.n then (st.P 1).s else 0, if 2 < st.n then (st.P 2).s else 0, if 3 < st.n then (st.P 3).s else 0⟩
theorem St.all_at (st : St) : ∀ k, k < 4 → st.all.at k = if k < st.n then (st.P k).s else 0
  | 0, _ => rfl
  | 1, _ => rfl
  | 2, _ => rfl
  | 3, _ => rfl
  | n + 4, h => absurd h (by omega)
theorem St.all_bd {st : St} (h : st.ok) : ∀ k, 0 ≤ st.all.at k ∧ st.all.at k ≤ 6
  | n + 4 => by simp [Bag.at]
  | 0 => by rw [st.all_at 0 (by omega)]; split; exact (h.pk 0 ‹_›).1; omega
  | 1 => by rw [st.all_at 1 (by omega)]; split; exact (h.pk 1 ‹_›).1; omega
  | 2 => by rw [st.all_at 2 (by omega)]; split; exact (h.pk 2 ‹_›).1; omega
  | 3 => by rw [st.all_at 3 (by omega)]; split; exact (h.pk 3 ‹_›).1; omega

theorem St.in_all {st : St} {x : Bag} (h : x.in_ st.all) : ∀ k, k < st.n → k < 4 → 0 ≤ x.at k ∧ x.at k ≤ (st.P k).s := fun k hk h4 => by
  have := Bag.in_at h k
  rw [st.all_at k h4, if_pos hk] at this
  exact this
theorem St.in_six {st : St} (hst : st.ok) {x : Bag} (h : x.in_ st.all) : (0 ≤ x.a ∧ x.a ≤ 6) ∧ (0 ≤ x.b ∧ x.b ≤ 6) ∧ (0 ≤ x.c ∧ x.c ≤ 6) ∧ 0 ≤ x.d ∧ x.d ≤ 6 := by
  have h0 := St.all_bd hst 0
  have h1 := St.all_bd hst 1
  have h2 := St.all_bd hst 2
  have h3 := St.all_bd hst 3
  simp only [Bag.at] at h0 h1 h2 h3
  unfold Bag.in_ at h
  omega
theorem St.size_bd {st : St} (hst : st.ok) {x : Bag} (h : x.in_ st.all) : 0 ≤ x.size ∧ x.size ≤ 24 := by
  have := St.in_six hst h
  unfold Bag.size
  omega

/-- how many foul sacks a bag can have -/
def St.lo (st : St) (x : Bag) : Int := sumN (fun k => (st.P k).loOf (x.at k)) st.n
def St.hi (st : St) (x : Bag) : Int := sumN (fun k => (st.P k).hiOf (x.at k)) st.n

/-- it surely has a grade -/
def St.has (st : St) (x : Bag) (g : Gd) : Bool := decide (0 < x.size) && decide (100 * st.hi x ≤ g.foul * x.size)

/-- the first grade from one on that it surely has; m if there is none -/
def St.firstFrom (st : St) (x : Bag) : Nat → Nat → Nat
  | 0, i => i
  | r + 1, i => if st.has x (st.G i) then i else st.firstFrom x r (i + 1)
def St.first (st : St) (x : Bag) : Nat := st.firstFrom x st.m 0
/-- the price of that grade, 0 if there is none -/
def St.price (st : St) (x : Bag) : Int := if st.first x < st.m then (st.G (st.first x)).price else 0
/-- that grade, without a price if there is none -/
def St.grade (st : St) (x : Bag) : Gd := if st.first x < st.m then st.G (st.first x) else ⟨0, 0⟩
theorem St.grade_price (st : St) (x : Bag) : (st.grade x).price = st.price x := by unfold St.grade St.price; split <;> rfl
theorem St.first_yes {st : St} {x : Bag} {k : Nat} (hk : k < st.m) (h0 : st.first x = st.firstFrom x (st.m - k) k) (h : st.has x (st.G k) = true) : st.grade x = st.G k := by
  have e : st.first x = k := by rw [h0, show st.m - k = (st.m - k - 1) + 1 from by omega, St.firstFrom, if_pos h]
  unfold St.grade; rw [e, if_pos hk]
theorem St.first_no {st : St} {x : Bag} {k : Nat} (hk : k < st.m) (h0 : st.first x = st.firstFrom x (st.m - k) k) (h : st.has x (st.G k) = false) : st.first x = st.firstFrom x (st.m - (k + 1)) (k + 1) := by
  rw [h0, show st.m - k = (st.m - (k + 1)) + 1 from by omega, St.firstFrom, if_neg (by simp [h])]
theorem St.first_end {st : St} {x : Bag} (h0 : st.first x = st.firstFrom x (st.m - st.m) st.m) : st.grade x = ⟨0, 0⟩ := by
  unfold St.grade; rw [if_neg]; rw [h0, Nat.sub_self]; simp [St.firstFrom]
def St.brings (st : St) (x : Bag) : Int := x.size * st.price x

theorem Pk.hi_bd {p : Pk} (h : p.rng) : 0 ≤ p.hi ∧ p.hi ≤ 6 := by unfold Pk.rng at h; unfold Pk.hi; omega
theorem St.hi_bd {st : St} (hst : st.ok) {x : Bag} (h : x.in_ st.all) : 0 ≤ st.hi x ∧ st.hi x ≤ 24 := by
  have n4 := hst.n4
  have := sumN_bd2 (fun k => (st.P k).hiOf (x.at k)) st.n 6 (fun k hk => by
    have h1 := St.in_all h k hk (by omega)
    have h2 := Pk.hi_bd (hst.pk k hk)
    have h3 := (hst.pk k hk).1
    show 0 ≤ (st.P k).hiOf _ ∧ (st.P k).hiOf _ ≤ 6
    unfold Pk.hiOf; omega)
  unfold St.hi; omega
theorem St.lo_bd {st : St} (hst : st.ok) {x : Bag} (h : x.in_ st.all) : 0 ≤ st.lo x ∧ st.lo x ≤ 24 := by
  have n4 := hst.n4
  have := sumN_bd2 (fun k => (st.P k).loOf (x.at k)) st.n 6 (fun k hk => by
    have h1 := St.in_all h k hk (by omega)
    have h2 := hst.pk k hk
    unfold Pk.rng at h2
    show 0 ≤ (st.P k).loOf _ ∧ (st.P k).loOf _ ≤ 6
    unfold Pk.loOf; omega)
  unfold St.lo; omega
theorem mul_bd {a b m n : Int} (ha : 0 ≤ a ∧ a ≤ m) (hb : 0 ≤ b ∧ b ≤ n) : 0 ≤ a * b ∧ a * b ≤ m * n :=
  ⟨Int.mul_nonneg ha.1 hb.1, Int.mul_le_mul ha.2 hb.2 hb.1 (Int.le_trans ha.1 ha.2)⟩
theorem St.firstFrom_le (st : St) (x : Bag) : ∀ r i, i ≤ st.firstFrom x r i ∧ st.firstFrom x r i ≤ i + r
  | 0, i => ⟨Nat.le_refl _, Nat.le_refl _⟩
  | r + 1, i => by
    unfold St.firstFrom
    split
    · omega
    · have := St.firstFrom_le st x r (i + 1); omega
theorem St.price_bd {st : St} (hst : st.ok) (x : Bag) : 0 ≤ st.price x ∧ st.price x ≤ 100 := by
  unfold St.price
  split
  · have := (hst.gd _ ‹_›).2; omega
  · omega
end Go.Proofs.YtmbkngfcbgbeiaaGreat
