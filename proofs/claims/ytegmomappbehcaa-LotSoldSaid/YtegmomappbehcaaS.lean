/- Plain words for the reference: which numbers of foul sacks can be; sums of spans. No program here. -/
import Derived.Test.YtegmomappbehcaaP
set_option linter.unusedSimpArgs false
set_option linter.unusedVariables false
namespace Go.Proofs.Ytegmomappbehcaa

/-- how many numbers of foul sacks a picking can have -/
def Pk.cnt (p : Pk) : Nat := (p.hi - p.f + 1).toNat
/-- so many sacks can be foul, so many of these in a lot -/
def Pk.can (p : Pk) (many foul inside : Int) : Bool := decide (0 ≤ inside) && decide (inside ≤ many) && decide (0 ≤ foul - inside) && decide (foul - inside ≤ p.s - many)
theorem Pk.can_iff {p : Pk} {many foul inside : Int} : p.can many foul inside = true ↔ 0 ≤ inside ∧ inside ≤ many ∧ 0 ≤ foul - inside ∧ foul - inside ≤ p.s - many := by
  unfold Pk.can; simp [and_assoc]
/-- the sums with a number -/
def con (now : Nat → Bool) (n j : Nat) : Bool := decide (n ≤ j) && now (j - n)
/-- the same, as far as numbers below m were added -/
def conM (now : Nat → Bool) (n m j : Nat) : Bool := decide (n ≤ j) && decide (j - n < m) && now (j - n)
def tn (p : Pk) (many foul : Int) (now : Nat → Bool) : Nat → Nat → Bool
  | 0, _ => false
  | n + 1, j => tn p many foul now n j || (p.can many foul n && con now n j)
def tk (p : Pk) (many : Int) (pick : Bool) (F : Int) (now : Nat → Bool) : Nat → Nat → Bool
  | 0, _ => false
  | k + 1, j => tk p many pick F now k j || (!(pick && decide (p.f + k ≠ F)) && tn p many (p.f + k) now 7 j)
/-- the numbers of foul sacks that a lot can have -/
def St.tr (st : St) (X : Nat → Int) (pick F : Int) : Nat → Nat → Bool
  | 0, j => decide (j = 0)
  | i + 1, j => tk (st.P i) (X i) (decide ((i : Int) = pick)) F (st.tr X pick F i) (st.P i).cnt j

theorem con_iff {now : Nat → Bool} {n j : Nat} : con now n j = true ↔ n ≤ j ∧ now (j - n) = true := by simp [con]
theorem tn_iff {p : Pk} {many foul : Int} {now : Nat → Bool} {j : Nat} : ∀ {N : Nat}, tn p many foul now N j = true ↔ ∃ n, n < N ∧ p.can many foul n = true ∧ n ≤ j ∧ now (j - n) = true
  | 0 => by simp [tn]
  | N + 1 => by
    simp only [tn, Bool.or_eq_true, Bool.and_eq_true, tn_iff (N := N), con_iff]
    constructor
    · rintro (⟨n, h1, h2⟩ | ⟨h1, h2⟩)
      · exact ⟨n, by omega, h2⟩
      · exact ⟨N, by omega, h1, h2⟩
    · rintro ⟨n, h1, h2, h3⟩
      by_cases h : n < N
      · exact .inl ⟨n, h, h2, h3⟩
      · obtain rfl : n = N := by omega
        exact .inr ⟨h2, h3⟩
theorem tk_iff {p : Pk} {many : Int} {pick : Bool} {F : Int} {now : Nat → Bool} {j : Nat} : ∀ {K : Nat}, tk p many pick F now K j = true ↔ ∃ k : Nat, k < K ∧ (pick = true → p.f + k = F) ∧ tn p many (p.f + k) now 7 j = true
  | 0 => by simp [tk]
  | K + 1 => by
    have e : ∀ k : Nat, (!(pick && decide (p.f + k ≠ F))) = true ↔ (pick = true → p.f + k = F) := fun k => by cases pick <;> simp
    simp only [tk, Bool.or_eq_true, Bool.and_eq_true, tk_iff (K := K), e]
    constructor
    · rintro (⟨n, h1, h2⟩ | ⟨h1, h2⟩)
      · exact ⟨n, by omega, h2⟩
      · exact ⟨K, by omega, h1, h2⟩
    · rintro ⟨n, h1, h2, h3⟩
      by_cases h : n < K
      · exact .inl ⟨n, h, h2, h3⟩
      · obtain rfl : n = K := by omega
        exact .inr ⟨h2, h3⟩

/-- the ends with one picking's number of foul sacks given -/
def St.tlo (st : St) (X : Nat → Int) (pick F : Int) (k : Nat) : Int := if (k : Int) = pick then max 0 (F - ((st.P k).s - X k)) else (st.P k).loOf (X k)
def St.thi (st : St) (X : Nat → Int) (pick F : Int) (k : Nat) : Int := if (k : Int) = pick then min F (X k) else (st.P k).hiOf (X k)

/-- one picking: which numbers can be in the lot -/
theorem tk_one {p : Pk} (hp : p.rng) (hs : p.f ≤ p.hi) {x : Int} (hx : 0 ≤ x ∧ x ≤ p.s) {pick : Bool} {F : Int} (hF : pick = true → p.f ≤ F ∧ F ≤ p.hi) {n : Nat} :
    (∃ k : Nat, k < p.cnt ∧ (pick = true → p.f + k = F) ∧ n < 7 ∧ p.can x (p.f + k) n = true) ↔ (if pick = true then max 0 (F - (p.s - x)) else p.loOf x) ≤ (n : Int) ∧ (n : Int) ≤ (if pick = true then min F x else p.hiOf x) := by
  unfold Pk.rng at hp
  unfold Pk.cnt Pk.loOf Pk.hiOf
  simp only [Pk.can_iff]
  have h6 : p.hi ≤ 6 := by unfold Pk.hi; omega
  cases pick with
  | true =>
    have hF := hF rfl
    simp only [if_true]
    constructor
    · rintro ⟨k, h1, h2, h3, h4⟩
      have := h2 trivial
      omega
    · intro h
      exact ⟨(F - p.f).toNat, by omega, by omega, by omega, by omega⟩
  | false =>
    simp only [Bool.false_eq_true, if_false, false_implies, true_and]
    constructor
    · rintro ⟨k, h1, h3, h4⟩
      omega
    · intro h
      -- the number outside is as small as can be
      exact ⟨(max (n : Int) p.f - p.f).toNat, by omega, by omega, by omega⟩

theorem St.tr_iff {st : St} (hp : ∀ k, k < st.n → (st.P k).rng) (hs : ∀ k, k < st.n → (st.P k).f ≤ (st.P k).hi) {X : Nat → Int} (hX : ∀ k, k < st.n → 0 ≤ X k ∧ X k ≤ (st.P k).s) {pick F : Int} (hF : ∀ k, k < st.n → (k : Int) = pick → (st.P k).f ≤ F ∧ F ≤ (st.P k).hi) :
    ∀ i, i ≤ st.n → ∀ j : Nat, st.tr X pick F i j = true ↔ sumN (st.tlo X pick F) i ≤ j ∧ (j : Int) ≤ sumN (st.thi X pick F) i
  | 0, _, j => by simp only [St.tr, sumN, decide_eq_true_eq]; omega
  | i + 1, hi, j => by
    have ih := St.tr_iff hp hs hX hF i (by omega)
    have h1 := hp i (by omega)
    have h2 := hs i (by omega)
    have h3 := hX i (by omega)
    have h4 : ∀ n : Nat, _ := fun n => tk_one h1 h2 h3 (pick := decide ((i : Int) = pick)) (F := F) (fun h => hF i (by omega) (by simpa using h)) (n := n)
    have e1 : (if decide ((i : Int) = pick) = true then max 0 (F - ((st.P i).s - X i)) else (st.P i).loOf (X i)) = st.tlo X pick F i := by unfold St.tlo; simp
    have e2 : (if decide ((i : Int) = pick) = true then min F (X i) else (st.P i).hiOf (X i)) = st.thi X pick F i := by unfold St.thi; simp
    simp only [e1, e2] at h4
    simp only [St.tr, tk_iff, tn_iff, sumN]
    have h5 : st.tlo X pick F i ≤ st.thi X pick F i ∧ 0 ≤ st.tlo X pick F i := by
      unfold Pk.rng at h1
      unfold St.tlo St.thi Pk.loOf Pk.hiOf
      split
      · have := hF i (by omega) ‹_›
        have : (st.P i).hi ≤ (st.P i).s := by unfold Pk.hi; omega
        omega
      · have : (st.P i).hi ≤ (st.P i).s := by unfold Pk.hi; omega
        omega
    have h6 : sumN (st.tlo X pick F) i ≤ sumN (st.thi X pick F) i := sumN_le (fun k hk => by
      have h1 := hp k (by omega)
      have h2 := hs k (by omega)
      have h3 := hX k (by omega)
      unfold Pk.rng at h1
      have : (st.P k).hi ≤ (st.P k).s := by unfold Pk.hi; omega
      unfold St.tlo St.thi Pk.loOf Pk.hiOf
      split
      · have := hF k (by omega) ‹_›
        omega
      · omega)
    have h7 : 0 ≤ sumN (st.tlo X pick F) i := by
      have : sumN (fun _ => 0) i ≤ sumN (st.tlo X pick F) i := sumN_le (fun k hk => by
        have h3 := hX k (by omega)
        unfold St.tlo Pk.loOf; split <;> omega)
      rw [sumN_zero (fun _ _ => rfl)] at this
      exact this
    constructor
    · rintro ⟨k, a, b, n, c, d, e, f⟩
      have := (h4 n).1 ⟨k, a, b, c, d⟩
      have := (ih (j - n)).1 f
      omega
    · intro h
      have h8 : ∃ n : Nat, (st.tlo X pick F i ≤ n ∧ (n : Int) ≤ st.thi X pick F i) ∧ n ≤ j ∧ sumN (st.tlo X pick F) i ≤ (j : Int) - n ∧ (j : Int) - n ≤ sumN (st.thi X pick F) i := by
        refine ⟨(max (st.tlo X pick F i) (j - sumN (st.thi X pick F) i)).toNat, ?_, ?_, ?_, ?_⟩ <;> omega
      obtain ⟨n, a, b, c, d⟩ := h8
      obtain ⟨k, k1, k2, k3, k4⟩ := (h4 n).2 a
      exact ⟨k, k1, k2, n, k3, k4, b, (ih (j - n)).2 (by omega)⟩

/-- the first and the last number that is true -/
def eS (len : Int) (l : Nat → Bool) : Nat → Int × Int
  | 0 => (len, -1)
  | n + 1 => if l n then (if (n : Int) < (eS len l n).1 then (n : Int) else (eS len l n).1, (n : Int)) else eS len l n
theorem eS_bd (len : Nat) (l : Nat → Bool) : ∀ n, n ≤ len → (0 ≤ (eS len l n).1 ∧ (eS len l n).1 ≤ len) ∧ -1 ≤ (eS len l n).2 ∧ (eS len l n).2 < n
  | 0, _ => by unfold eS; simp
  | n + 1, h => by
    have := eS_bd len l n (by omega)
    unfold eS
    split
    · split <;> simp <;> omega
    · omega
theorem eS_span {len : Nat} {l : Nat → Bool} {a b : Int} (h0 : 0 ≤ a) (h : ∀ j : Nat, j < len → (l j = true ↔ a ≤ j ∧ (j : Int) ≤ b)) :
    ∀ n, n ≤ len → eS len l n = if a ≤ b ∧ a < n then (a, min b ((n : Int) - 1)) else ((len : Int), -1)
  | 0, _ => by rw [if_neg (by omega)]; rfl
  | n + 1, hn => by
    have ih := eS_span h0 h n (by omega)
    have h1 := h n (by omega)
    unfold eS
    rw [ih]
    by_cases hl : l n = true
    · have h2 := h1.1 hl
      rw [if_pos hl]
      by_cases h3 : a ≤ b ∧ a < (n : Int)
      · rw [if_pos h3, if_pos (show a ≤ b ∧ a < ((n + 1 : Nat) : Int) by omega)]
        show (if (n : Int) < a then (n : Int) else a, (n : Int)) = _
        rw [if_neg (by omega)]
        congr 1
        omega
      · rw [if_neg h3, if_pos (show a ≤ b ∧ a < ((n + 1 : Nat) : Int) by omega)]
        show (if (n : Int) < (len : Int) then (n : Int) else (len : Int), (n : Int)) = _
        rw [if_pos (by omega)]
        refine Prod.ext ?_ ?_ <;> simp <;> omega
    · rw [if_neg hl]
      have h2 : ¬ (a ≤ (n : Int) ∧ (n : Int) ≤ b) := fun h => hl (h1.2 h)
      by_cases h3 : a ≤ b ∧ a < (n : Int)
      · rw [if_pos h3, if_pos (by omega)]
        congr 1
        omega
      · rw [if_neg h3, if_neg (by omega)]
theorem eS_all {len : Nat} {l : Nat → Bool} {a b : Int} (h0 : 0 ≤ a) (hab : a ≤ b) (hb : b < len) (h : ∀ j : Nat, j < len → (l j = true ↔ a ≤ j ∧ (j : Int) ≤ b)) : eS len l len = (a, b) := by
  rw [eS_span h0 h len (Nat.le_refl _), if_pos (by omega)]
  congr 1
  omega
theorem eS_no {len : Nat} {l : Nat → Bool} {a b : Int} (h0 : 0 ≤ a) (hab : b < a) (h : ∀ j : Nat, j < len → (l j = true ↔ a ≤ j ∧ (j : Int) ≤ b)) : eS len l len = ((len : Int), -1) := by
  rw [eS_span h0 h len (Nat.le_refl _), if_neg (by omega)]
/-- which numbers a sample leaves -/
def aft (l : Nat → Bool) (size opened found : Int) (n : Nat) : Bool := l n && decide (found ≤ n) && decide (opened - found ≤ size - n)
theorem aft_iff {l : Nat → Bool} {size opened found : Int} {n : Nat} : aft l size opened found n = true ↔ l n = true ∧ found ≤ n ∧ opened - found ≤ size - n := by simp [aft, and_assoc]
end Go.Proofs.Ytegmomappbehcaa
