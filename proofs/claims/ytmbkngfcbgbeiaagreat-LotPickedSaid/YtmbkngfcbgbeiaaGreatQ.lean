/- Plain words: the bags that are within one, in lexicographic order. No program here. -/
import Derived.Test.YtmbkngfcbgbeiaaGreatP
namespace Go.Proofs.YtmbkngfcbgbeiaaGreat

def Bag.set (x : Bag) : Nat → Int → Bag
  | 0, v => { x with a := v }
  | 1, v => { x with b := v }
  | 2, v => { x with c := v }
  | 3, v => { x with d := v }
  | _, _ => x
theorem Bag.at_set {x : Bag} {v : Int} : ∀ {j k : Nat}, k < 4 → (x.set k v).at j = if j = k then v else x.at j
  | 0, 0, _ => rfl
  | 0, 1, _ => rfl
  | 0, 2, _ => rfl
  | 0, 3, _ => rfl
  | 1, 0, _ => rfl
  | 1, 1, _ => rfl
  | 1, 2, _ => rfl
  | 1, 3, _ => rfl
  | 2, 0, _ => rfl
  | 2, 1, _ => rfl
  | 2, 2, _ => rfl
  | 2, 3, _ => rfl
  | 3, 0, _ => rfl
  | 3, 1, _ => rfl
  | 3, 2, _ => rfl
  | 3, 3, _ => rfl
  | j + 4, 0, _ => by rw [if_neg (by omega)]; rfl
  | j + 4, 1, _ => by rw [if_neg (by omega)]; rfl
  | j + 4, 2, _ => by rw [if_neg (by omega)]; rfl
  | j + 4, 3, _ => by rw [if_neg (by omega)]; rfl
  | _, k + 4, h => absurd h (by omega)
theorem Bag.set_set (x : Bag) (u v : Int) : ∀ k, (x.set k u).set k v = x.set k v
  | 0 => rfl
  | 1 => rfl
  | 2 => rfl
  | 3 => rfl
  | _ + 4 => rfl
theorem Bag.set_at (x : Bag) : ∀ k, x.set k (x.at k) = x
  | 0 => rfl
  | 1 => rfl
  | 2 => rfl
  | 3 => rfl
  | _ + 4 => rfl
theorem Bag.ext_at {x y : Bag} (h : ∀ k, k < 4 → x.at k = y.at k) : x = y := by
  have h0 := h 0 (by omega)
  have h1 := h 1 (by omega)
  have h2 := h 2 (by omega)
  have h3 := h 3 (by omega)
  cases x; cases y
  simp only [Bag.at] at h0 h1 h2 h3
  subst h0 h1 h2 h3
  rfl

/-- all bags that have the last r numbers changed, each from 0 to that of left -/
def exts (left : Bag) : Nat → Bag → List Bag
  | 0, b => [b]
  | r + 1, b => (List.range (left.at (3 - r) + 1).toNat).flatMap fun n : Nat => exts left r (b.set (3 - r) n)
/-- the first k rounds of it -/
def extsK (left : Bag) (r : Nat) (b : Bag) (k : Nat) : List Bag := (List.range k).flatMap fun n : Nat => exts left r (b.set (3 - r) n)
theorem extsK_succ (left : Bag) (r : Nat) (b : Bag) (k : Nat) : extsK left r b (k + 1) = extsK left r b k ++ exts left r (b.set (3 - r) k) := by
  simp [extsK, List.range_succ]
theorem extsK_zero (left : Bag) (r : Nat) (b : Bag) : extsK left r b 0 = [] := rfl
theorem exts_succ (left : Bag) (r : Nat) (b : Bag) : exts left (r + 1) b = extsK left r b (left.at (3 - r) + 1).toNat := rfl
theorem extsK_prefix (left : Bag) (r : Nat) (b : Bag) {k m : Nat} (h : k ≤ m) : extsK left r b k <+: extsK left r b m := by
  induction h with
  | refl => exact List.prefix_refl _
  | step _ ih => rw [extsK_succ]; exact ih.trans (List.prefix_append _ _)

theorem mem_exts {left : Bag} : ∀ {r : Nat} {b x : Bag}, r ≤ 4 → (x ∈ exts left r b ↔ (∀ k, k < 4 - r → x.at k = b.at k) ∧ (∀ k, 4 - r ≤ k → k < 4 → 0 ≤ x.at k ∧ x.at k ≤ left.at k))
  | 0, b, x, _ => by
    simp only [exts, List.mem_singleton]
    constructor
    · rintro rfl; exact ⟨fun _ _ => rfl, fun k h1 h2 => absurd h1 (by omega)⟩
    · rintro ⟨h, _⟩; exact Bag.ext_at h
  | r + 1, b, x, hr => by
    rw [exts]
    simp only [List.mem_flatMap, List.mem_range]
    constructor
    · rintro ⟨n, hn, hx⟩
      rw [mem_exts (by omega)] at hx
      obtain ⟨h1, h2⟩ := hx
      have h3 := h1 (3 - r) (by omega)
      rw [Bag.at_set (by omega), if_pos rfl] at h3
      refine ⟨fun k hk => ?_, fun k hk hk4 => ?_⟩
      · rw [h1 k (by omega), Bag.at_set (by omega), if_neg (by omega)]
      · by_cases e : k = 3 - r
        · subst e; rw [h3]; omega
        · exact h2 k (by omega) hk4
    · rintro ⟨h1, h2⟩
      have h3 := h2 (3 - r) (by omega) (by omega)
      refine ⟨(x.at (3 - r)).toNat, by omega, ?_⟩
      rw [mem_exts (by omega)]
      refine ⟨fun k hk => ?_, fun k hk hk4 => h2 k (by omega) hk4⟩
      rw [Bag.at_set (by omega)]
      split
      · subst k; omega
      · exact h1 k (by omega)

def bagZ : Bag := ⟨0, 0, 0, 0⟩
/-- all bags within one, in lexicographic order -/
def bagsOf (left : Bag) : List Bag := exts left 4 bagZ
theorem mem_bagsOf {left x : Bag} : x ∈ bagsOf left ↔ x.in_ left := by
  unfold bagsOf
  rw [mem_exts (by omega)]
  constructor
  · rintro ⟨_, h⟩
    exact ⟨h 0 (by omega) (by omega), h 1 (by omega) (by omega), h 2 (by omega) (by omega), h 3 (by omega) (by omega)⟩
  · intro h
    exact ⟨fun k hk => absurd hk (by omega), fun k _ _ => Bag.in_at h k⟩
theorem length_flatMap_le {α β : Type} {f : α → List β} {c : Nat} : ∀ (l : List α), (∀ x ∈ l, (f x).length ≤ c) → (l.flatMap f).length ≤ l.length * c
  | [], _ => by simp
  | x :: l, h => by
    have h1 := length_flatMap_le l (fun y hy => h y (by simp [hy]))
    have h2 := h x (by simp)
    simp only [List.flatMap_cons, List.length_append, List.length_cons, Nat.add_mul, Nat.one_mul]
    omega
theorem exts_length {left : Bag} (h6 : ∀ k, k < 4 → left.at k ≤ 6) : ∀ (r : Nat) (b : Bag), r ≤ 4 → (exts left r b).length ≤ 7 ^ r
  | 0, _, _ => by simp [exts]
  | r + 1, b, hr => by
    have := length_flatMap_le (f := fun n : Nat => exts left r (b.set (3 - r) n)) (c := 7 ^ r) (List.range (left.at (3 - r) + 1).toNat) (fun n _ => exts_length h6 r _ (by omega))
    rw [exts, Nat.pow_succ]
    rw [List.length_range] at this
    have h7 : (left.at (3 - r) + 1).toNat ≤ 7 := by have := h6 (3 - r) (by omega); omega
    refine Nat.le_trans this ?_
    rw [Nat.mul_comm]
    exact Nat.mul_le_mul_left _ h7
theorem bagsOf_length {left : Bag} (h6 : ∀ k, k < 4 → left.at k ≤ 6) : (bagsOf left).length ≤ 2401 := exts_length h6 4 bagZ (by omega)
end Go.Proofs.YtmbkngfcbgbeiaaGreat
