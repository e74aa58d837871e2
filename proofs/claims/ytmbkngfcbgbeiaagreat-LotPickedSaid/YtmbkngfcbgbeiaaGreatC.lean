/- Plain words: the plan that brings most. -/
import Derived.Test.YtmbkngfcbgbeiaaGreatMp
namespace Go.Proofs.YtmbkngfcbgbeiaaGreat

def St.chStep (st : St) (rec : Bag → Int) (left : Bag) (out : Bag × Int) (b : Bag) : Bag × Int :=
  if st.brings b = 0 then out else if decide (out.2 < st.brings b + rec (left.less b)) then (b, st.brings b + rec (left.less b)) else out
/-- a lot, and what it brings with all that follow it, of what is left and so many lots -/
def St.choose (st : St) : Nat → Bag → Bag × Int
  | 0, _ => (bagZ, 0)
  | k + 1, left => (bagsOf left).foldl (st.chStep (fun x => (st.choose k x).2) left) (bagZ, 0)
def St.choOf (st : St) (k : Nat) (left : Bag) (l : List Bag) : Bag × Int := l.foldl (st.chStep (fun x => (st.choose k x).2) left) (bagZ, 0)
theorem St.choOf_snoc (st : St) (k : Nat) (left : Bag) (l : List Bag) (b : Bag) : st.choOf k left (l ++ [b]) = st.chStep (fun x => (st.choose k x).2) left (st.choOf k left l) b := by simp [St.choOf]
theorem St.choose_succ (st : St) (k : Nat) (left : Bag) : st.choose (k + 1) left = st.choOf k left (bagsOf left) := rfl

theorem Bag.in_trans {x y z : Bag} (h : x.in_ y) (k : y.in_ z) : x.in_ z := by unfold Bag.in_ at *; omega
theorem Bag.less_in {x y : Bag} (h : x.in_ y) : (y.less x).in_ y := by unfold Bag.in_ Bag.less at *; dsimp only; omega
theorem St.brings_bd {st : St} (hst : st.ok) {x : Bag} (h : x.in_ st.all) : 0 ≤ st.brings x ∧ st.brings x ≤ 2400 := by
  have := mul_bd (St.size_bd hst h) (St.price_bd hst x)
  unfold St.brings
  omega
theorem St.choose_bd {st : St} (hst : st.ok) : ∀ (k : Nat) (left : Bag), left.in_ st.all → 0 ≤ (st.choose k left).2 ∧ (st.choose k left).2 ≤ 2400 * (k : Int)
  | 0, _, _ => by simp [St.choose]
  | k + 1, left, hl => by
    have key : ∀ (l : List Bag) (o : Bag × Int), (∀ b ∈ l, b.in_ left) → 0 ≤ o.2 ∧ o.2 ≤ 2400 * ((k + 1 : Nat) : Int) → 0 ≤ (l.foldl (st.chStep (fun x => (st.choose k x).2) left) o).2 ∧ (l.foldl (st.chStep (fun x => (st.choose k x).2) left) o).2 ≤ 2400 * ((k + 1 : Nat) : Int) := by
      intro l
      induction l with
      | nil => intro o _ h; exact h
      | cons b l ih =>
        intro o h ho
        simp only [List.foldl_cons]
        refine ih _ (fun x hx => h x (by simp [hx])) ?_
        unfold St.chStep
        have hb := h b (by simp)
        have h1 := St.brings_bd hst (Bag.in_trans hb hl)
        have h2 := St.choose_bd hst k (left.less b) (Bag.in_trans (Bag.less_in hb) hl)
        split
        · exact ho
        · split
          · dsimp only; omega
          · exact ho
    exact key (bagsOf left) _ (fun b hb => mem_bagsOf.1 hb) (by simp; omega)
theorem St.choOf_bd {st : St} (hst : st.ok) (k : Nat) {left : Bag} (hl : left.in_ st.all) : ∀ {l : List Bag}, (∀ b ∈ l, b.in_ left) → (0 ≤ (st.choOf k left l).2 ∧ (st.choOf k left l).2 ≤ 2400 * ((k + 1 : Nat) : Int)) ∧ (st.choOf k left l).1.in_ left := fun {l} h => by
  have key : ∀ (l : List Bag) (o : Bag × Int), (∀ b ∈ l, b.in_ left) → (0 ≤ o.2 ∧ o.2 ≤ 2400 * ((k + 1 : Nat) : Int)) ∧ o.1.in_ left → (0 ≤ (l.foldl (st.chStep (fun x => (st.choose k x).2) left) o).2 ∧ (l.foldl (st.chStep (fun x => (st.choose k x).2) left) o).2 ≤ 2400 * ((k + 1 : Nat) : Int)) ∧ (l.foldl (st.chStep (fun x => (st.choose k x).2) left) o).1.in_ left := by
    intro l
    induction l with
    | nil => intro o _ h; exact h
    | cons b l ih =>
      intro o h ho
      simp only [List.foldl_cons]
      refine ih _ (fun x hx => h x (by simp [hx])) ?_
      unfold St.chStep
      have hb := h b (by simp)
      have h1 := St.brings_bd hst (Bag.in_trans hb hl)
      have h2 := St.choose_bd hst k (left.less b) (Bag.in_trans (Bag.less_in hb) hl)
      split
      · exact ho
      · split
        · exact ⟨by dsimp only; omega, hb⟩
        · exact ho
  refine key l _ h ⟨by simp; omega, ?_⟩
  have hz := Bag.in_at hl
  unfold Bag.in_ at hl ⊢
  unfold bagZ
  dsimp only
  have h1 : 0 ≤ left.a := by have := hl.1; exact this.1
  have h2 : 0 ≤ left.b := by have := hl.2.1; exact this.1
  have h3 : 0 ≤ left.c := by have := hl.2.2.1; exact this.1
  have h4 : 0 ≤ left.d := by have := hl.2.2.2; exact this.1
  omega
theorem St.in_sml {st : St} (hst : st.ok) {x : Bag} (h : x.in_ st.all) : x.sml := St.in_six hst h

/-- how many stages at most a search writes down -/
def updN : Nat → Nat
  | 0 => 0
  | k + 1 => 1 + 2401 * updN k
theorem updN_le : ∀ k, k ≤ 3 → updN k ≤ 6000000
  | 0, _ => by decide
  | 1, _ => by decide
  | 2, _ => by decide
  | 3, _ => by decide
  | k + 4, h => absurd h (by omega)
/-- what is written down is so -/
def Good (st : St) (g : Bag → Int → Option (Bag × Int)) : Prop := ∀ x (k : Nat) c, x.in_ st.all → g x k = some c → c = st.choose k x
theorem Good.put {st : St} {g : Bag → Int → Option (Bag × Int)} (h : Good st g) (x : Bag) (k : Nat) : Good st (fun y m => if y = x ∧ m = (k : Int) then some (st.choose k x) else g y m) := fun y m c hy hc => by
  dsimp only at hc
  split at hc
  · rename_i e
    obtain ⟨rfl, e2⟩ := e
    have : m = k := by omega
    subst this
    injection hc with hc
    exact hc.symm
  · exact h y m c hy hc
theorem Good.none (st : St) : Good st (fun _ _ => Option.none) := fun _ _ _ _ h => by cases h
end Go.Proofs.YtmbkngfcbgbeiaaGreat
