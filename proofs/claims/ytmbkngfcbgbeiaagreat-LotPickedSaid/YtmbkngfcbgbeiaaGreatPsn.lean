/- LotPicked: the joined statement. -/
import Derived.Test.YtmbkngfcbgbeiaaGreatWs
import Derived.Test.YtmbkngfcbgbeiaaGreatWy
import Derived.Test.YtmbkngfcbgbeiaaGreatEp
import Derived.Test.YtmbkngfcbgbeiaaGreatEk
import Derived.Test.YtmbkngfcbgbeiaaGreatWe
import Derived.Test.YtmbkngfcbgbeiaaGreatWh
import Derived.ProofKit
import Derived.Deep.Slices
import Derived.Deep.Fields
import Derived.Lib.SmallJoins
import Derived.Test.YtmbkngfcbgbeiaaGreatJa
import Derived.Test.YtmbkngfcbgbeiaaGreatEo
import Derived.Test.YtmbkngfcbgbeiaaGreatEl
import Derived.Test.YtmbkngfcbgbeiaaGreatAx
import Derived.Test.YtmbkngfcbgbeiaaGreatRows
set_option linter.unusedSimpArgs false
set_option linter.unusedVariables false
namespace Go.Proofs.YtmbkngfcbgbeiaaGreat

theorem sumN_cons (f : Nat → Int) : ∀ n, sumN f (n + 1) = f 0 + sumN (fun k => f (k + 1)) n
  | 0 => by simp [sumN]
  | n + 1 => by
    show sumN f (n + 1) + f (n + 1) = f 0 + (sumN (fun k => f (k + 1)) n + f (n + 1))
    rw [sumN_cons f n]
    omega
theorem St.choOf_form (st : St) (k : Nat) (left : Bag) (l : List Bag) : (st.choOf k left l = (bagZ, 0)) ∨ ∃ b, b ∈ l ∧ st.brings b ≠ 0 ∧ st.choOf k left l = (b, st.brings b + (st.choose k (left.less b)).2) := by
  have key : ∀ (l : List Bag) (acc : Bag × Int), (l.foldl (st.chStep (fun x => (st.choose k x).2) left) acc = acc) ∨ ∃ b, b ∈ l ∧ st.brings b ≠ 0 ∧ l.foldl (st.chStep (fun x => (st.choose k x).2) left) acc = (b, st.brings b + (st.choose k (left.less b)).2) := by
    intro l
    induction l with
    | nil => intro acc; exact .inl rfl
    | cons a l ih =>
      intro acc
      rw [List.foldl_cons]
      have ha : st.chStep (fun x => (st.choose k x).2) left acc a = acc ∨ st.brings a ≠ 0 ∧ st.chStep (fun x => (st.choose k x).2) left acc a = (a, st.brings a + (st.choose k (left.less a)).2) := by
        unfold St.chStep
        by_cases hb : st.brings a = 0
        · rw [if_pos hb]; exact .inl rfl
        · rw [if_neg hb]
          split
          · exact .inr ⟨hb, rfl⟩
          · exact .inl rfl
      rcases ih (st.chStep (fun x => (st.choose k x).2) left acc a) with h | ⟨b, h1, h2, h3⟩
      · rw [h]
        rcases ha with ha | ⟨h1, h2⟩
        · exact .inl ha
        · exact .inr ⟨a, by simp, h1, h2⟩
      · exact .inr ⟨b, by simp [h1], h2, h3⟩
  exact key l _
theorem Bag.less_atp (x y : Bag) : ∀ p, (x.less y).at p = x.at p - y.at p
  | 0 => rfl
  | 1 => rfl
  | 2 => rfl
  | 3 => rfl
  | n + 4 => rfl
theorem St.planN_all {st : St} (hst : st.ok) : ∀ (k : Nat) (left : Bag), left.in_ st.all →
    (∀ x, x ∈ st.planN k left → x.in_ left ∧ st.brings x ≠ 0) ∧ (∀ p, sumN (fun j => ((st.planN k left).getD j bagZ).at p) (st.planN k left).length ≤ left.at p) ∧ sumN (fun j => st.brings ((st.planN k left).getD j bagZ)) (st.planN k left).length = (st.choose k left).2
  | 0, left, hl => ⟨fun x hx => by simp [St.planN] at hx, fun p => Int.le_trans (Int.le_refl 0) (Bag.in_at hl p).1, rfl⟩
  | k + 1, left, hl => by
    have hbd := St.choose_bd hst (k + 1) left hl
    rw [St.planN_succ]
    by_cases h0 : 0 < (st.choose (k + 1) left).2
    · rw [if_pos (by simpa using h0)]
      rcases st.choOf_form k left (bagsOf left) with h | ⟨b, h1, h2, h3⟩
      · rw [St.choose_succ, h] at h0
        exact absurd h0 (by decide)
      · have hb := mem_bagsOf.1 h1
        have hli : (left.less b).in_ st.all := Bag.in_trans (Bag.less_in hb) hl
        have e1 : (st.choose (k + 1) left).1 = b := by rw [St.choose_succ, h3]
        have e2 : (st.choose (k + 1) left).2 = st.brings b + (st.choose k (left.less b)).2 := by rw [St.choose_succ, h3]
        rw [e1, e2]
        obtain ⟨i1, i2, i3⟩ := St.planN_all hst k (left.less b) hli
        refine ⟨fun x hx => ?_, fun p => ?_, ?_⟩
        · rcases List.mem_cons.1 hx with rfl | hx
          · exact ⟨hb, h2⟩
          · exact ⟨Bag.in_trans (i1 x hx).1 (Bag.less_in hb), (i1 x hx).2⟩
        · rw [List.length_cons, sumN_cons]
          have h4 := i2 p
          rw [Bag.less_atp] at h4
          show b.at p + sumN (fun j => ((st.planN k (left.less b)).getD j bagZ).at p) (st.planN k (left.less b)).length ≤ left.at p
          omega
        · rw [List.length_cons, sumN_cons]
          show st.brings b + sumN (fun j => st.brings ((st.planN k (left.less b)).getD j bagZ)) _ = _
          rw [i3]
    · rw [if_neg (by simpa using h0)]
      refine ⟨fun x hx => by simp at hx, fun p => ?_, ?_⟩
      · exact (Bag.in_at hl p).1
      · show (0 : Int) = (st.choose (k + 1) left).2
        omega
theorem St.plan_get {st : St} (hst : st.ok) {j : Nat} (hj : j < (st.planN st.lots.toNat st.all).length) : ((st.planN st.lots.toNat st.all).getD j bagZ).in_ st.all ∧ st.brings ((st.planN st.lots.toNat st.all).getD j bagZ) ≠ 0 := by
  have ha : st.all.in_ st.all := ⟨⟨(St.all_bd hst 0).1, Int.le_refl _⟩, ⟨(St.all_bd hst 1).1, Int.le_refl _⟩, ⟨(St.all_bd hst 2).1, Int.le_refl _⟩, (St.all_bd hst 3).1, Int.le_refl _⟩
  refine (St.planN_all hst st.lots.toNat st.all ha).1 _ ?_
  rw [List.getD_eq_getElem?_getD, List.getElem?_eq_getElem hj]
  exact List.getElem_mem _
theorem St.choOf_ge (st : St) (k : Nat) (left : Bag) : ∀ (l : List Bag) (acc : Bag × Int), acc.2 ≤ (l.foldl (st.chStep (fun x => (st.choose k x).2) left) acc).2 ∧ ∀ b, b ∈ l → st.brings b ≠ 0 → st.brings b + (st.choose k (left.less b)).2 ≤ (l.foldl (st.chStep (fun x => (st.choose k x).2) left) acc).2
  | [], acc => ⟨Int.le_refl _, fun b hb => by cases hb⟩
  | a :: l, acc => by
    simp only [List.foldl_cons]
    obtain ⟨h1, h2⟩ := St.choOf_ge st k left l (st.chStep (fun x => (st.choose k x).2) left acc a)
    have hs : acc.2 ≤ (st.chStep (fun x => (st.choose k x).2) left acc a).2 ∧ (st.brings a ≠ 0 → st.brings a + (st.choose k (left.less a)).2 ≤ (st.chStep (fun x => (st.choose k x).2) left acc a).2) := by
      unfold St.chStep
      by_cases hb : st.brings a = 0
      · rw [if_pos hb]
        exact ⟨Int.le_refl _, fun h => absurd hb h⟩
      · rw [if_neg hb]
        by_cases hlt : acc.2 < st.brings a + (st.choose k (left.less a)).2
        · rw [if_pos (by simpa using hlt)]
          exact ⟨by dsimp only; omega, fun _ => Int.le_refl _⟩
        · rw [if_neg (by simpa using hlt)]
          exact ⟨Int.le_refl _, fun _ => by omega⟩
    refine ⟨by omega, fun b hb hn => ?_⟩
    rcases List.mem_cons.1 hb with rfl | hb
    · have := hs.2 hn
      omega
    · exact h2 b hb hn
theorem St.choose_ge (st : St) (k : Nat) {left b : Bag} (hb : b.in_ left) (hn : st.brings b ≠ 0) : st.brings b + (st.choose k (left.less b)).2 ≤ (st.choose (k + 1) left).2 :=
  (St.choOf_ge st k left (bagsOf left) (bagZ, 0)).2 b (mem_bagsOf.2 hb) hn
theorem Bag.in_of_at {x y : Bag} (h : ∀ p, p < 4 → 0 ≤ x.at p ∧ x.at p ≤ y.at p) : x.in_ y :=
  ⟨h 0 (by omega), h 1 (by omega), h 2 (by omega), h 3 (by omega)⟩
theorem sumN_nn {f : Nat → Int} {n : Nat} (h : ∀ k, k < n → 0 ≤ f k) : 0 ≤ sumN f n := by
  have := sumN_le (f := fun _ => 0) (g := f) (n := n) h
  rw [sumN_zero (fun k _ => rfl)] at this
  exact this
/-- no plan brings more than the one that is told -/
theorem St.plan_le {st : St} (hst : st.ok) : ∀ (m k : Nat) (B : Nat → Bag) (left : Bag), left.in_ st.all → m ≤ k → (∀ j, j < m → ∀ p, p < 4 → 0 ≤ (B j).at p) → (∀ p, p < 4 → sumN (fun j => (B j).at p) m ≤ left.at p) → sumN (fun j => st.brings (B j)) m ≤ (st.choose k left).2
  | 0, k, B, left, hl, _, _, _ => (St.choose_bd hst k left hl).1
  | m + 1, k, B, left, hl, hk, hB, hs => by
    obtain ⟨k, rfl⟩ : ∃ q, k = q + 1 := ⟨k - 1, by omega⟩
    have h0 : ∀ p, p < 4 → (B 0).at p + sumN (fun j => (B (j + 1)).at p) m ≤ left.at p := fun p hp => by have := hs p hp; rw [sumN_cons] at this; exact this
    have hnn : ∀ p, p < 4 → 0 ≤ sumN (fun j => (B (j + 1)).at p) m := fun p hp => sumN_nn (fun j hj => hB (j + 1) (by omega) p hp)
    rw [sumN_cons]
    by_cases hb : st.brings (B 0) = 0
    · rw [hb, Int.zero_add]
      exact St.plan_le hst m (k + 1) (fun j => B (j + 1)) left hl (by omega) (fun j hj => hB (j + 1) (by omega)) (fun p hp => by have := h0 p hp; have := hB 0 (by omega) p hp; show sumN (fun j => (B (j + 1)).at p) m ≤ left.at p; omega)
    · have hin : (B 0).in_ left := Bag.in_of_at (fun p hp => by have := h0 p hp; have := hnn p hp; have := hB 0 (by omega) p hp; omega)
      have h1 := St.choose_ge st k hin hb
      have h2 := St.plan_le hst m k (fun j => B (j + 1)) (left.less (B 0)) (Bag.in_trans (Bag.less_in hin) hl) (by omega) (fun j hj => hB (j + 1) (by omega)) (fun p hp => by rw [Bag.less_atp]; have := h0 p hp; show sumN (fun j => (B (j + 1)).at p) m ≤ left.at p - (B 0).at p; omega)
      show st.brings (B 0) + sumN (fun j => st.brings (B (j + 1))) m ≤ _
      omega
theorem St.all_self {st : St} (hst : st.ok) : st.all.in_ st.all := ⟨⟨(St.all_bd hst 0).1, Int.le_refl _⟩, ⟨(St.all_bd hst 1).1, Int.le_refl _⟩, ⟨(St.all_bd hst 2).1, Int.le_refl _⟩, (St.all_bd hst 3).1, Int.le_refl _⟩
theorem gprice_le {st : St} (hst : st.ok) {i : Nat} : ∀ d, i + d < st.m → (st.G (i + d)).price ≤ (st.G i).price
  | 0, _ => Int.le_refl _
  | d + 1, h => by
    have h1 := gprice_le hst (i := i) d (by omega)
    have h2 := (hst.up (i + d) (by omega)).2
    show (st.G (i + d + 1)).price ≤ _
    omega
theorem first_spec {st : St} {x : Bag} : ∀ r i, i ≤ st.firstFrom x r i ∧ st.firstFrom x r i ≤ i + r ∧ (st.firstFrom x r i < i + r → st.has x (st.G (st.firstFrom x r i)) = true) ∧ ∀ j, i ≤ j → j < st.firstFrom x r i → st.has x (st.G j) = false
  | 0, i => ⟨Nat.le_refl _, Nat.le_refl _, fun h => absurd h (Nat.lt_irrefl _), fun j h1 h2 => absurd h2 (by show ¬ j < i; omega)⟩
  | r + 1, i => by
    unfold St.firstFrom
    by_cases h : st.has x (st.G i) = true
    · rw [if_pos h]
      exact ⟨Nat.le_refl _, by omega, fun _ => h, fun j h1 h2 => by omega⟩
    · rw [if_neg h]
      obtain ⟨h1, h2, h3, h4⟩ := first_spec (st := st) (x := x) r (i + 1)
      refine ⟨by omega, by omega, fun hh => h3 (by omega), fun j g1 g2 => ?_⟩
      by_cases e : j = i
      · subst e; simpa using h
      · exact h4 j (by omega) g2
/-- a store of which more is known -/
structure Narrow (st s2 : St) : Prop where
  n : s2.n = st.n
  m : s2.m = st.m
  l : s2.lots = st.lots
  g : ∀ k, s2.G k = st.G k
  p : ∀ k, k < st.n → (s2.P k).s = (st.P k).s ∧ (s2.P k).hi ≤ (st.P k).hi ∧ (st.P k).f ≤ (s2.P k).f
theorem Narrow.all {st s2 : St} (h : Narrow st s2) : s2.all = st.all := by
  unfold St.all
  rw [h.n]
  congr 1
  · split
    · exact (h.p 0 ‹_›).1
    · rfl
  · split
    · exact (h.p 1 ‹_›).1
    · rfl
  · split
    · exact (h.p 2 ‹_›).1
    · rfl
  · split
    · exact (h.p 3 ‹_›).1
    · rfl
theorem Narrow.hi {st s2 : St} (h : Narrow st s2) (x : Bag) : s2.hi x ≤ st.hi x := by
  unfold St.hi
  rw [h.n]
  refine sumN_le (fun k hk => ?_)
  have := (h.p k hk).2.1
  unfold Pk.hiOf
  omega
theorem Narrow.has {st s2 : St} (h : Narrow st s2) {x : Bag} {g : Gd} (hx : st.has x g = true) : s2.has x g = true := by
  have := h.hi x
  unfold St.has at hx ⊢
  simp only [Bool.and_eq_true, decide_eq_true_iff] at hx ⊢
  omega
theorem Narrow.first {st s2 : St} (h : Narrow st s2) (x : Bag) : s2.first x ≤ st.first x ∧ st.first x ≤ st.m := by
  obtain ⟨h1, h2, h3, h4⟩ := first_spec (st := st) (x := x) st.m 0
  obtain ⟨g1, g2, g3, g4⟩ := first_spec (st := s2) (x := x) s2.m 0
  have e : st.firstFrom x st.m 0 = st.first x := rfl
  have e2 : s2.firstFrom x s2.m 0 = s2.first x := rfl
  rw [e] at h2 h3
  rw [e2, h.m] at g2
  rw [e2] at g4
  refine ⟨?_, by omega⟩
  by_cases hf : st.first x < st.m
  · apply Classical.byContradiction
    intro hn
    have h5 := g4 (st.first x) (Nat.zero_le _) (by omega)
    rw [h.g, h.has (h3 (by omega))] at h5
    cases h5
  · omega
theorem Narrow.brings {st s2 : St} (hst : st.ok) (h : Narrow st s2) {x : Bag} (hx : 0 ≤ x.size) : st.brings x ≤ s2.brings x := by
  have h1 := h.first x
  have hp : st.price x ≤ s2.price x := by
    unfold St.price
    rw [h.m]
    by_cases hf : st.first x < st.m
    · rw [if_pos hf, if_pos (by omega), h.g]
      obtain ⟨d, hd⟩ : ∃ d, st.first x = s2.first x + d := ⟨st.first x - s2.first x, by omega⟩
      have := gprice_le hst (i := s2.first x) d (by omega)
      rw [← hd] at this
      exact this
    · rw [if_neg hf]
      split
      · rename_i h2
        rw [h.g]
        have := (hst.gd _ h2).2
        omega
      · exact Int.le_refl _
  unfold St.brings
  exact Int.mul_le_mul_of_nonneg_left hp hx
theorem Narrow.top {st s2 : St} (hst : st.ok) (h2 : s2.ok) (h : Narrow st s2) : st.top ≤ s2.top := by
  unfold St.top
  rw [h.l, h.all]
  obtain ⟨i1, i2, i3⟩ := St.planN_all hst st.lots.toNat st.all (St.all_self hst)
  rw [← i3]
  have hlen := St.planN_len st st.lots.toNat st.all
  have hin : ∀ j, j < (st.planN st.lots.toNat st.all).length → ((st.planN st.lots.toNat st.all).getD j bagZ).in_ st.all := fun j hj => (St.plan_get hst hj).1
  have h1 := St.plan_le h2 (st.planN st.lots.toNat st.all).length st.lots.toNat (fun j => (st.planN st.lots.toNat st.all).getD j bagZ) st.all (by have := St.all_self h2; rw [h.all] at this ⊢; exact this) hlen (fun j hj p _ => (Bag.in_at (hin j hj) p).1) (fun p _ => i2 p)
  refine Int.le_trans (sumN_le (fun j hj => ?_)) h1
  exact Narrow.brings hst h (St.size_bd hst (hin j hj)).1
end Go.Proofs.YtmbkngfcbgbeiaaGreat

set_option linter.unusedSimpArgs false
set_option linter.unusedVariables false
namespace Go.Proofs.YtmbkngfcbgbeiaaGreat

/-- pickings of the heaps that are not too great -/
def pickN (M Y : Nat → Int) : Nat → Nat × (Nat → Pk)
  | 0 => (0, fun _ => ⟨0, 0, 0, 0⟩)
  | k + 1 => if M k ≤ 6 then ((pickN M Y k).1 + 1, fun j => if j = (pickN M Y k).1 then ⟨M k, Y k, 0, 0⟩ else (pickN M Y k).2 j) else pickN M Y k
theorem pickN_yes {M Y : Nat → Int} {k : Nat} (h : M k ≤ 6) : pickN M Y (k + 1) = ((pickN M Y k).1 + 1, fun j => if j = (pickN M Y k).1 then ⟨M k, Y k, 0, 0⟩ else (pickN M Y k).2 j) := by
  show (if M k ≤ 6 then _ else _) = _
  rw [if_pos h]
theorem pickN_no {M Y : Nat → Int} {k : Nat} (h : ¬ M k ≤ 6) : pickN M Y (k + 1) = pickN M Y k := by
  show (if M k ≤ 6 then _ else _) = _
  rw [if_neg h]
theorem pickN_le (M Y : Nat → Int) : ∀ k, (pickN M Y k).1 ≤ k
  | 0 => Nat.le_refl _
  | k + 1 => by
    have := pickN_le M Y k
    by_cases h : M k ≤ 6
    · rw [pickN_yes h]; show (pickN M Y k).1 + 1 ≤ k + 1; omega
    · rw [pickN_no h]; omega
/-- a picking none of which was opened -/
def shutPk (p : Pk) : Prop := (0 ≤ p.s ∧ p.s ≤ 6) ∧ (0 ≤ p.w ∧ p.w ≤ p.s) ∧ p.o = 0 ∧ p.f = 0
theorem pickN_shut {M Y : Nat → Int} : ∀ k, (∀ j, j < k → 0 ≤ Y j ∧ Y j ≤ M j) → ∀ j, j < (pickN M Y k).1 → shutPk ((pickN M Y k).2 j)
  | 0, _, j, hj => absurd hj (by show ¬ j < 0; omega)
  | k + 1, h, j, hj => by
    have ih := pickN_shut k (fun j hj => h j (by omega))
    have hk := h k (by omega)
    by_cases hm : M k ≤ 6
    · rw [pickN_yes hm] at hj ⊢
      dsimp only at hj ⊢
      by_cases e : j = (pickN M Y k).1
      · rw [if_pos e]
        exact ⟨⟨by dsimp only; omega, hm⟩, hk, rfl, rfl⟩
      · rw [if_neg e]
        exact ih j (by omega)
    · rw [pickN_no hm] at hj ⊢
      exact ih j hj
/-- hands that slip less: as many pickings of as many sacks, no more of which are foul -/
theorem pickN_less {M Y Z : Nat → Int} : ∀ k, (∀ j, j < k → Z j ≤ Y j) → (pickN M Z k).1 = (pickN M Y k).1 ∧ ∀ j, j < (pickN M Y k).1 → ((pickN M Z k).2 j).s = ((pickN M Y k).2 j).s ∧ ((pickN M Z k).2 j).w ≤ ((pickN M Y k).2 j).w
  | 0, _ => ⟨rfl, fun j hj => absurd hj (by show ¬ j < 0; omega)⟩
  | k + 1, h => by
    obtain ⟨h1, h2⟩ := pickN_less (M := M) (Y := Y) (Z := Z) k (fun j hj => h j (by omega))
    by_cases hm : M k ≤ 6
    · rw [pickN_yes hm, pickN_yes hm]
      refine ⟨by dsimp only; omega, fun j hj => ?_⟩
      dsimp only at hj ⊢
      rw [h1]
      by_cases e : j = (pickN M Y k).1
      · rw [if_pos e, if_pos e]
        exact ⟨rfl, h k (by omega)⟩
      · rw [if_neg e, if_neg e]
        exact h2 j (by omega)
    · rw [pickN_no hm, pickN_no hm]
      exact ⟨h1, h2⟩
/-- a store of such pickings is right -/
theorem shut_ok {st : St} (hn : 1 ≤ st.n ∧ st.n ≤ 4) (hm : st.m ≤ 4) (hl : 0 ≤ st.lots ∧ st.lots ≤ 3) (hg : ∀ k, k < st.m → (st.G k).rng) (hu : ∀ k, k + 1 < st.m → (st.G k).foul < (st.G (k + 1)).foul ∧ (st.G (k + 1)).price < (st.G k).price) (hp : ∀ k, k < st.n → shutPk (st.P k)) : st.ok := by
  refine ⟨hn.1, hn.2, hm, fun k hk => ?_, hg, hl.1, hl.2, hu, fun k hk => ?_⟩
  · have h := hp k hk
    unfold shutPk at h
    unfold Pk.rng
    omega
  · have h := hp k hk
    unfold shutPk at h
    unfold Pk.hi
    omega
theorem bagAt {X : Nat → Int} {n k : Nat} (hk : k < n) (h4 : k < 4) : (bagOf X n).at k = X k := by
  have h : k = 0 ∨ k = 1 ∨ k = 2 ∨ k = 3 := by omega
  rcases h with rfl | rfl | rfl | rfl <;> simp [bagOf, bagK, Bag.at, hk]
theorem bagSum {X : Nat → Int} {n : Nat} (h4 : n ≤ 4) : sumN X n = (bagOf X n).size := by
  have hc : n = 0 ∨ n = 1 ∨ n = 2 ∨ n = 3 ∨ n = 4 := by omega
  rcases hc with rfl | rfl | rfl | rfl | rfl <;> simp [sumN, bagOf, bagK, Bag.size]
/-- a lot of all sacks of one picking -/
theorem one_lot {st : St} (h4 : st.n ≤ 4) {i : Nat} (hi : i < st.n) (hp : ∀ k, k < st.n → shutPk (st.P k)) : (bagOf (fun j => if j = i then (st.P i).s else 0) st.n).size = (st.P i).s ∧ st.hi (bagOf (fun j => if j = i then (st.P i).s else 0) st.n) = (st.P i).w := by
  have key : ∀ (f : Nat → Int) (v : Int), f i = v → (∀ k, k < st.n → k ≠ i → f k = 0) → sumN f st.n = v := by
    intro f v h1 h2
    have : ∀ n, n ≤ st.n → sumN f n = if i < n then v else 0 := by
      intro n
      induction n with
      | zero => intro _; rfl
      | succ n ih =>
        intro hn
        simp only [sumN]
        rw [ih (by omega)]
        by_cases e : n = i
        · subst e; rw [if_neg (by omega), if_pos (by omega), h1]; omega
        · rw [h2 n (by omega) e]
          by_cases e2 : i < n
          · rw [if_pos e2, if_pos (by omega)]; omega
          · rw [if_neg e2, if_neg (by omega)]; omega
    rw [this st.n (Nat.le_refl _), if_pos hi]
  refine ⟨?_, ?_⟩
  · rw [← bagSum h4]
    exact key _ _ (if_pos rfl) (fun k _ h => if_neg h)
  · unfold St.hi
    refine key _ _ ?_ (fun k hk h => ?_)
    · rw [bagAt hi (by omega), if_pos rfl]
      have h := hp i hi
      unfold shutPk at h
      unfold Pk.hiOf Pk.hi
      omega
    · rw [bagAt hk (by omega), if_neg h]
      have h := hp k hk
      unfold shutPk at h
      unfold Pk.hiOf Pk.hi
      omega
/-- it surely has the one grade: just if it has sacks, and few enough can be foul -/
theorem one_sure {st : St} (hm : st.m = 1) (h4 : st.n ≤ 4) {i : Nat} (hi : i < st.n) (hp : ∀ k, k < st.n → shutPk (st.P k)) : st.sureI (bagOf (fun j => if j = i then (st.P i).s else 0) st.n) = if 0 < (st.P i).s ∧ 100 * (st.P i).w ≤ (st.G 0).foul * (st.P i).s then 0 else -1 := by
  obtain ⟨h1, h2⟩ := one_lot h4 hi hp
  generalize bagOf (fun j => if j = i then (st.P i).s else 0) st.n = x at *
  have hh : st.has x (st.G 0) = decide (0 < (st.P i).s ∧ 100 * (st.P i).w ≤ (st.G 0).foul * (st.P i).s) := by
    unfold St.has
    rw [h1, h2]
    simp
  have hf : st.firstFrom x 1 0 = if st.has x (st.G 0) then 0 else 1 := by
    show (if st.has x (st.G 0) then 0 else st.firstFrom x 0 (0 + 1)) = _
    rfl
  unfold St.sureI St.first
  rw [hm, hf, hh]
  by_cases e : 0 < (st.P i).s ∧ 100 * (st.P i).w ≤ (st.G 0).foul * (st.P i).s
  · rw [decide_eq_true e, if_pos e]
    rfl
  · rw [decide_eq_false e, if_neg e]
    rfl
theorem one_ask {st : St} (hst : st.ok) {i : Nat} (hi : i < st.n) : st.askErr st.n (fun j => if j = i then (st.P i).s else 0) = 0 := by
  unfold St.askErr
  rw [if_neg (by simp [St.check_ok.2 hst])]
  unfold St.lotErr
  rw [if_neg (by simp), if_neg]
  rw [allN_iff.2 (fun k hk => by
    have h1 := (hst.pk k hk).1
    by_cases e : k = i
    · subst e; simp [inB]; omega
    · simp [inB, e]; omega)]
  decide
/-- one lot at most, of which each sack brings the price -/
theorem plan_one {st : St} (hst : st.ok) (hm : st.m = 1) (hl : st.lots = 1) (hg : (st.G 0).price = 5) : (st.planN st.lots.toNat st.all).length ≤ 1 ∧ 0 ≤ (st.choose st.lots.toNat st.all).2 ∧ (st.choose st.lots.toNat st.all).2 ≤ 10000 ∧ ∀ j, j < (st.planN st.lots.toNat st.all).length → (0 ≤ ((st.planN st.lots.toNat st.all).getD j bagZ).size ∧ ((st.planN st.lots.toNat st.all).getD j bagZ).size ≤ 24) ∧ ((st.planN st.lots.toNat st.all).getD j bagZ).size * 5 = (st.choose st.lots.toNat st.all).2 := by
  have hlen := St.planN_len st st.lots.toNat st.all
  rw [show st.lots.toNat = 1 by omega] at hlen ⊢
  have hbd := St.choose_bd hst 1 st.all (St.all_self hst)
  obtain ⟨i1, i2, i3⟩ := St.planN_all hst 1 st.all (St.all_self hst)
  refine ⟨hlen, hbd.1, by omega, fun j hj => ?_⟩
  obtain rfl : j = 0 := by omega
  have hL : (st.planN 1 st.all).length = 1 := by omega
  rw [hL] at i3
  have hm0 : (st.planN 1 st.all).getD 0 bagZ ∈ st.planN 1 st.all := by
    rw [List.getD_eq_getElem?_getD, List.getElem?_eq_getElem hj]
    exact List.getElem_mem _
  obtain ⟨hin, hb⟩ := i1 _ hm0
  have e : st.brings ((st.planN 1 st.all).getD 0 bagZ) = (st.choose 1 st.all).2 := by
    have : sumN (fun j => st.brings ((st.planN 1 st.all).getD j bagZ)) 1 = st.brings ((st.planN 1 st.all).getD 0 bagZ) := by show 0 + st.brings ((st.planN 1 st.all).getD 0 bagZ) = _; omega
    rw [← this]
    exact i3
  refine ⟨St.size_bd hst hin, ?_⟩
  rw [← e]
  unfold St.brings at hb ⊢
  have hp : st.price ((st.planN 1 st.all).getD 0 bagZ) = 5 := by
    unfold St.price at hb ⊢
    by_cases hf : st.first ((st.planN 1 st.all).getD 0 bagZ) < st.m
    · rw [if_pos hf]
      rw [show st.first ((st.planN 1 st.all).getD 0 bagZ) = 0 by omega]
      exact hg
    · rw [if_neg hf] at hb
      exact absurd (Int.mul_zero _) hb
  rw [hp]
/-- the sum of a lot's numbers -/
theorem bag_total {st : St} (h4 : st.n ≤ 4) {x : Bag} (h : x.in_ st.all) : sumN x.at st.n = x.size := by
  have hz : ∀ p, p < 4 → st.n ≤ p → x.at p = 0 := fun p hp hn => by
    have h1 := Bag.in_at h p
    rw [st.all_at p hp, if_neg (by omega)] at h1
    omega
  have h0 := hz 0 (by omega)
  have h1 := hz 1 (by omega)
  have h2 := hz 2 (by omega)
  have h3 := hz 3 (by omega)
  simp only [Bag.at] at h0 h1 h2 h3
  have hc : st.n = 0 ∨ st.n = 1 ∨ st.n = 2 ∨ st.n = 3 ∨ st.n = 4 := by omega
  rcases hc with e | e | e | e | e <;> rw [e] <;> simp only [sumN, Bag.at, Bag.size] <;> omega
/-- sacks that were opened, none of which is foul -/
def openPk (p : Pk) (q : Int) : Pk := ⟨p.s, p.w, q, p.f⟩
theorem shut_narrow {st s2 : St} (hn : s2.n = st.n) (hm : s2.m = st.m) (hl : s2.lots = st.lots) (hg : ∀ k, s2.G k = st.G k) (h1 : ∀ k, k < st.n → shutPk (st.P k)) (h2 : ∀ k, k < st.n → shutPk (s2.P k)) (h : ∀ k, k < st.n → (s2.P k).s = (st.P k).s ∧ (s2.P k).w ≤ (st.P k).w) : Narrow st s2 := by
  refine ⟨hn, hm, hl, hg, fun k hk => ?_⟩
  have a := h1 k hk
  have b := h2 k hk
  have c := h k hk
  unfold shutPk at a b
  unfold Pk.hi
  omega
theorem open_ok {st : St} {Q : Nat → Int} (hst : st.ok) (h1 : ∀ k, k < st.n → shutPk (st.P k)) (hq : ∀ k, k < st.n → 0 ≤ Q k ∧ Q k ≤ (st.P k).s) : St.ok { st with P := fun k => openPk (st.P k) (Q k) } ∧ Narrow st { st with P := fun k => openPk (st.P k) (Q k) } := by
  refine ⟨⟨hst.n1, hst.n4, hst.m4, fun k hk => ?_, hst.gd, hst.l0, hst.l3, hst.up, fun k hk => ?_⟩, ⟨rfl, rfl, rfl, fun _ => rfl, fun k hk => ?_⟩⟩
  · have a := h1 k hk
    have b := hq k hk
    unfold shutPk at a
    unfold Pk.rng openPk
    dsimp only
    omega
  · have a := h1 k hk
    have b := hq k hk
    unfold shutPk at a
    unfold Pk.hi openPk
    dsimp only
    omega
  · have a := h1 k hk
    have b := hq k hk
    unfold shutPk at a
    unfold Pk.hi openPk
    dsimp only
    omega
end Go.Proofs.YtmbkngfcbgbeiaaGreat

set_option linter.unusedSimpArgs false
set_option linter.unusedVariables false
namespace Go.Proofs.YtmbkngfcbgbeiaaGreat
open Go.RowKit Go.Shelf

set_option maxRecDepth 100000 in
set_option maxHeartbeats 1000000 in
theorem total_any (A : Option Addr) (n c : Nat) (X : Nat → Int) (W : World) (hl : IntRow W W.heap.size A n X) (hn : n ≤ 1000) (hx : ∀ k, k < n → -100 ≤ X k ∧ X k ≤ 100) :
    Calls Tryz.prog 20 #[.slice A n c] W fun e W' => e = .returned (.int .i64 (sumN X n)) ∧ Below W.heap.size W W' := by
  have HL := Lib.hid hl
  have HBD : Hid (∀ k, k ≤ n → -100 * (k : Int) ≤ sumN X k ∧ sumN X k ≤ 100 * (k : Int)) := Lib.hid (fun k hk => sumN_bdh X k (fun j hj => hx j (by omega)))
  have HX := Lib.hid hx
  clear hl hx
  go_enter Tryz.func20, Tryz.ntmps20
  go_wp2_with fail
  go_loopw [3, 8] (fun v i wr => ∃ k : Nat, k ≤ n ∧ i = .int .i64 k ∧ v = .int .i64 (sumN X k) ∧ wr = W) (fun _ i _ => n - (intOf i).toNat)
  case atStart => exact ⟨0, Nat.zero_le _, rfl, rfl, rfl⟩
  case round =>
    obtain ⟨k, hk, rfl, rfl, rfl⟩ := hrel
    by_cases hlt : k < n
    · obtain ⟨b, o, rfl, hbl, c0⟩ := HL.out k hlt
      have hk0 : (0 : Int) ≤ (k : Int) := by omega
      have hkn : (k : Int) < (n : Int) := by omega
      have hb1 := HBD.out (k + 1) hlt
      have ew : IntKind.i64.wrap (sumN X k + X k) = sumN X (k + 1) := IntWalk.i64_in _ (by
        have : sumN X (k + 1) = sumN X k + X k := rfl
        omega)
      clear hb1
      go_wp2_with fail
      go_roundw
      case rel => exact ⟨k + 1, by omega, by go_num, rfl, trivial⟩
      case measure => simp [intOf]; omega
    · obtain rfl : k = n := by omega
      have hge : ¬ (k : Int) < (k : Int) := by omega
      go_wp2_with fail
      go_ret
      exact ⟨rfl, Below.refl _ _⟩

set_option maxRecDepth 100000 in
set_option maxHeartbeats 400000 in
theorem wrap_any (v n : Int) (hn : n ≤ 1000) (W : World) :
    Calls Tryz.prog 15 #[.int .i64 v, .int .i64 n] W fun e W' => ∃ k : Int, e = .returned (.int .i64 k) ∧ 0 ≤ k ∧ (k < n ∨ k = 0) ∧ W = W' := by
  by_cases h1 : n < 1
  · go_enter Tryz.func15, Tryz.ntmps15
    go_wp2_with fail
    go_ret
    exact ⟨0, rfl, by omega, .inr rfl, rfl⟩
  · have h2 : 1 ≤ n := by omega
    have hne : (n == 0) = false := by rw [beq_eq_false_iff_ne]; omega
    have hb : -n < v.tmod n ∧ v.tmod n < n := by
      have h3 := Int.tmod_lt_of_pos v (show 0 < n by omega)
      have h4 : -n < v.tmod n := by
        have h5 := Int.tmod_lt_of_pos (-v) (show 0 < n by omega)
        rw [Int.neg_tmod] at h5
        omega
      exact ⟨h4, h3⟩
    have HB := Lib.hid hb
    have ew : IntKind.i64.wrap (v.tmod n) = v.tmod n := IntWalk.i64_in _ (by omega)
    by_cases h3 : v.tmod n < 0
    · have ew2 : IntKind.i64.wrap (v.tmod n + n) = v.tmod n + n := IntWalk.i64_in _ (by omega)
      clear hb
      go_enter Tryz.func15, Tryz.ntmps15
      go_wp2_with fail
      go_ret
      have := HB.out
      exact ⟨_, rfl, by omega, .inl (by omega), rfl⟩
    · clear hb
      go_enter Tryz.func15, Tryz.ntmps15
      go_wp2_with fail
      go_ret
      have := HB.out
      exact ⟨_, rfl, by omega, .inl (by omega), rfl⟩

/-- a row of slices -/
def SlRow (w : World) (B : Nat) (A : Option Addr) (n : Nat) (P : Nat → Option Addr × Nat × Nat) : Prop :=
  ∀ k, k < n → ∃ b o, A = some ⟨b, o, none⟩ ∧ b < B ∧ w.cell? ⟨b, o + k, none⟩ = some (.slice (P k).1 (P k).2.1 (P k).2.2)
theorem SlRow.below {w w' : World} {B : Nat} {A : Option Addr} {n : Nat} {P : Nat → Option Addr × Nat × Nat} (h : SlRow w B A n P) (hb : Below B w w') : SlRow w' B A n P := fun k hk => by
  obtain ⟨b, o, hA, hB, c0⟩ := h k hk
  exact ⟨b, o, hA, hB, (hb.cell (p := ⟨b, _, none⟩) hB).trans c0⟩

set_option maxRecDepth 100000 in
set_option maxHeartbeats 1000000 in
theorem idx_sl (A : Option Addr) (n c : Nat) (P : Nat → (Option Addr × Nat × Nat)) (W : World) (hr : SlRow W W.heap.size A n P) (hn : n ≤ 1000) (h cb : Nat) (f : Nat → Bool)
    (hcf : ∀ args w, (callFunc h args).run Tryz.prog w = .ok (.enter h args) w)
    (hf : ∀ k, k < n → ∀ w, Below W.heap.size W w → Calls Tryz.prog h #[.slice (P k).1 (P k).2.1 (P k).2.2, .pointer (some ⟨cb, 0, none⟩)] w fun e w' => e = .returned (.bool (f k)) ∧ Below w.heap.size w w') :
    Calls Tryz.prog 50 #[.slice A n c, .func (.func h) #[] #[.pointer (some ⟨cb, 0, none⟩)]] W fun e w' => e = .returned (.int .i64 (idxFrom f n 0)) ∧ Below W.heap.size W w' := by
  have HR := Lib.hid hr
  have HF := Lib.hid hf
  clear hr hf
  go_enter Tryz.func50, Tryz.ntmps50
  go_wp2_with fail
  go_loopw [8] (fun i wr => ∃ k : Nat, k ≤ n ∧ i = .int .i64 k ∧ Hid (idxFrom f n 0 = idxFrom f (n - k) k) ∧ Below W.heap.size W wr) (fun i _ => n - (intOf i).toNat)
  case atStart => exact ⟨0, Nat.zero_le _, rfl, Lib.hid rfl, Below.refl _ _⟩
  case round =>
    obtain ⟨k, hk, rfl, h0, hbw⟩ := hrel
    have HBW := Lib.hid hbw
    clear hbw
    by_cases hlt : k < n
    · obtain ⟨b, o, rfl, hb', c0⟩ := HR.out.below HBW.out k hlt
      have hcall := Lib.hid (HF.out k hlt wr HBW.out)
      go_wp2_with fail
      refine hcall.out.mono ?_
      rintro e w1 ⟨rfl, hb1⟩
      have hsz := HBW.out.size
      by_cases hh : f k = true
      · have HH := Lib.hid hh
        have hy := HBW.out
        go_wp2_with fail
        go_ret
        exact ⟨by rw [idx_yes hlt h0.out HH.out]; rfl, (by repeat (first | (with_reducible exact Below.refl _ _) | (with_reducible refine Below.drew ?_) | (with_reducible refine below_drewN ?_ _) | ((with_reducible refine below_alloc ?_ ?_ _); · (first | exact Nat.le_refl _ | omega | (simp; done) | (simp; omega) | (simp at *; omega))) | ((with_reducible refine below_set ?_ ?_ _); · (first | exact Nat.le_refl _ | omega | (simp; done) | (simp; omega) | (simp at *; omega))) | ((with_reducible refine below_via (by with_reducible assumption) ?_ ?_); · (first | exact Nat.le_refl _ | omega | (simp; done) | (simp; omega) | (simp at *; omega)))))⟩
      · simp only [Bool.not_eq_true] at hh
        have HH := Lib.hid hh
        have hall : Hid (Below W.heap.size W w1) := Lib.hid (by have hy := HBW.out; exact (by repeat (first | (with_reducible exact Below.refl _ _) | (with_reducible refine Below.drew ?_) | (with_reducible refine below_drewN ?_ _) | ((with_reducible refine below_alloc ?_ ?_ _); · (first | exact Nat.le_refl _ | omega | (simp; done) | (simp; omega) | (simp at *; omega))) | ((with_reducible refine below_set ?_ ?_ _); · (first | exact Nat.le_refl _ | omega | (simp; done) | (simp; omega) | (simp at *; omega))) | ((with_reducible refine below_via (by with_reducible assumption) ?_ ?_); · (first | exact Nat.le_refl _ | omega | (simp; done) | (simp; omega) | (simp at *; omega))))))
        go_wp2_with fail
        go_roundw
        case rel => exact ⟨k + 1, by omega, by go_num, Lib.hid (idx_no hlt h0.out HH.out), hall.out⟩
        case measure => simp [intOf]; omega
    · have hk' : k = n := by omega
      go_wp2_with fail
      go_ret
      exact ⟨by rw [idx_end (by have h := h0.out; rwa [hk'] at h)]; rfl, HBW.out⟩

set_option maxRecDepth 100000 in
set_option maxHeartbeats 1000000 in
theorem has_sl (A : Option Addr) (n c : Nat) (P : Nat → (Option Addr × Nat × Nat)) (W : World) (hr : SlRow W W.heap.size A n P) (hn : n ≤ 1000) (h cb : Nat) (f : Nat → Bool)
    (hcf : ∀ args w, (callFunc h args).run Tryz.prog w = .ok (.enter h args) w)
    (hf : ∀ k, k < n → ∀ w, Below W.heap.size W w → Calls Tryz.prog h #[.slice (P k).1 (P k).2.1 (P k).2.2, .pointer (some ⟨cb, 0, none⟩)] w fun e w' => e = .returned (.bool (f k)) ∧ Below w.heap.size w w') :
    Calls Tryz.prog 18 #[.slice A n c, .func (.func h) #[] #[.pointer (some ⟨cb, 0, none⟩)]] W fun e w' => e = .returned (.bool (decide (0 ≤ idxFrom f n 0))) ∧ Below W.heap.size W w' := by
  have H := Lib.hid (idx_sl A n c P W hr hn h cb f hcf hf)
  clear hr hf hcf
  go_enter Tryz.func18, Tryz.ntmps18
  go_wp2_with fail
  refine H.out.mono ?_
  rintro e w1 ⟨rfl, hb1⟩
  go_wp2_with fail
  go_ret
  exact ⟨rfl, hb1⟩


theorem total_eq (A : Option Addr) (n c : Nat) (X : Nat → Int) (S : Int) (W : World) (hl : IntRow W W.heap.size A n X) (hn : n ≤ 1000) (hx : ∀ k, k < n → -100 ≤ X k ∧ X k ≤ 100) (hS : S = sumN X n) :
    Calls Tryz.prog 20 #[.slice A n c] W fun e W' => e = .returned (.int .i64 S) ∧ Below W.heap.size W W' := by
  rw [hS]
  exact total_any A n c X W hl hn hx
set_option maxRecDepth 100000 in
set_option maxHeartbeats 1000000 in
/-- the law's closure: all lots of the plan bring as much -/
theorem picked1_any (xb : Nat) (A : Option Addr) (n c : Nat) (X : Nat → Int) (z : Int) (W : World) (hc : W.cell? ⟨xb, 0, none⟩ = some (.int .i64 z)) (hl : IntRow W W.heap.size A n X) (hn : n ≤ 1000) (hx : ∀ k, k < n → -100 ≤ X k ∧ X k ≤ 100) :
    Calls Tryz.prog 19 #[.slice A n c, .pointer (some ⟨xb, 0, none⟩)] W fun e W' => e = .returned (.bool (sumN X n * 5 != z)) ∧ Below W.heap.size W W' := by
  have HL := Lib.hid hl
  have HX := Lib.hid hx
  have hb := sumN_bdh X n hx
  obtain ⟨S, hS⟩ : ∃ S, S = sumN X n := ⟨_, rfl⟩
  rw [← hS] at hb ⊢
  have HS := Lib.hid hS
  have ew : IntKind.i64.wrap (S * 5) = S * 5 := IntWalk.i64_in _ (by omega)
  clear hl hx hS
  go_enter Tryz.func19, Tryz.ntmps19
  go_upto_region 1 with fail
  refine region_qbw (by kernel_rfl) (by kernel_rfl) ?_
  have x0 := cell_regrown hc
  repeat (first | go_big_quiet_step ((go_at_call 20; exact Calls.regrown_of (total_eq A n c X S _ ((HL.out.below (below_regrown _ _ _)).mono (below_regrown _ _ _).size) hn HX.out HS.out))) | quiet_step ((go_at_call 20; exact Calls.regrown_of (total_eq A n c X S _ ((HL.out.below (below_regrown _ _ _)).mono (below_regrown _ _ _).size) hn HX.out HS.out))))
  refine wpQuiet_nil ?_; intro wq hbq
  go_wp2_with fail
  go_ret
  exact ⟨rfl, hbq⟩
end Go.Proofs.YtmbkngfcbgbeiaaGreat

set_option linter.unusedSimpArgs false
set_option linter.unusedVariables false
namespace Go.Proofs.YtmbkngfcbgbeiaaGreat
open Go.ChangeShapes Go.WideShapes Go.ChangeAt Go.RowKit Go.Deep Go.Joins

/-- the number in a cell -/
def numAt (w : World) (a : Addr) : Int := match w.cell? a with | some (.int _ z) => z | _ => 0
theorem numAt_eq {w : World} {a : Addr} {z : Int} (h : w.cell? a = some (.int .i64 z)) : w.cell? a = some (.int .i64 (numAt w a)) := by
  unfold numAt; rw [h]

section
variable {H : Type} {enc : TypeId × Value → H} {w : World} {base : Nat} {spare : Nat → Bool} {held : Bool}

set_option maxRecDepth 100000 in
/-- a slice of structs of integers alone: its cells -/
theorem open_cells {t e : TypeId} {fs : Array Field} {fuel : Nat} {cs : List Value} {x : DataW H × List MemPlace} (ht : Tryz.prog.underlying t = some (.slice e)) (he : Tryz.prog.underlying e = some (.struct fs))
    (hone : oneCellFields Tryz.prog fs = true) (hC : Tryz.prog.cellsOf e = fs.size) (hint : ∀ (j : Nat) (f : Field), fs[j]? = some f → Tryz.prog.underlying f.type = some (.int .i64)) (h : DataW.trod enc Tryz.prog w base spare held fuel t cs = some x) :
    cs = [.slice none 0 0] ∨ ∃ (a : Addr) (len cap : Nat), cs = [.slice (some a) len cap] ∧ len ≤ cap ∧ ∀ i j, i < len → j < fs.size → w.cell? (a.add (i * fs.size + j)) = some (.int .i64 (numAt w (a.add (i * fs.size + j)))) := by
  rcases open_slice ht h with ⟨h0, _⟩ | ⟨a, len, cap, m, n, D, Pl, hcs, hb, hl, hm, hmm, hx, hi⟩
  · exact .inl h0
  · refine .inr ⟨a, len, cap, hcs, hl, fun i j hil hjl => ?_⟩
    have him : i < m := by rw [hmm]; split <;> omega
    obtain ⟨cs', hc, ht'⟩ := hi i him
    rw [hC] at hc
    obtain ⟨ys, n', hn', hy, hlen, hyl, hf⟩ := DataW.trod_struct he ht'
    obtain ⟨_, hcl, hat⟩ := World.cells?_some hc
    obtain ⟨f, hfj⟩ : ∃ f, fs[j]? = some f := ⟨fs[j], Array.getElem?_eq_getElem hjl⟩
    obtain ⟨ho, hk⟩ := hone_of hone j f hfj
    have hcell := hat j hjl
    have hv : cs'[j]? = some (cs'[j]'(by omega)) := List.getElem?_eq_getElem (by omega)
    have h1 := hf j f hfj
    rw [ho, hk] at h1
    have hone' : (cs'.drop j).take 1 = [cs'[j]'(by omega)] := by
      rw [List.drop_eq_getElem_cons (by omega)]
      rfl
    rw [hone'] at h1
    have hys : ys[j]? = some (ys[j]'(by omega)) := List.getElem?_eq_getElem (by omega)
    obtain ⟨z, hz, _⟩ := DataW.trod_int (hint j f hfj) (h1.trans hys)
    injection hz with hz
    rw [Go.Deep.add_add, hv, hz] at hcell
    exact numAt_eq hcell
set_option maxRecDepth 100000 in
/-- a slice of integers: its cells -/
theorem open_nums {t e : TypeId} {fuel : Nat} {cs : List Value} {x : DataW H × List MemPlace} (ht : Tryz.prog.underlying t = some (.slice e)) (he : Tryz.prog.underlying e = some (.int .i64)) (hC : Tryz.prog.cellsOf e = 1)
    (h : DataW.trod enc Tryz.prog w base spare held fuel t cs = some x) :
    cs = [.slice none 0 0] ∨ ∃ (a : Addr) (len cap : Nat), cs = [.slice (some a) len cap] ∧ len ≤ cap ∧ ∀ i, i < len → w.cell? (a.add i) = some (.int .i64 (numAt w (a.add i))) := by
  rcases open_slice ht h with ⟨h0, _⟩ | ⟨a, len, cap, m, n, D, Pl, hcs, hb, hl, hm, hmm, hx, hi⟩
  · exact .inl h0
  · refine .inr ⟨a, len, cap, hcs, hl, fun i hil => ?_⟩
    have him : i < m := by rw [hmm]; split <;> omega
    obtain ⟨cs', hc, ht'⟩ := hi i him
    rw [hC, Nat.mul_one] at hc
    obtain ⟨_, hcl, hat⟩ := World.cells?_some hc
    obtain ⟨z, hz, _⟩ := DataW.trod_int he ht'
    have hcell := hat 0 (by omega)
    rw [hz] at hcell
    have : w.cell? (a.add i) = some (.int .i64 z) := by simpa [Addr.add] using hcell
    exact numAt_eq this

set_option maxRecDepth 100000 in
theorem open_pkrow {fuel : Nat} {v : Value} {x : DataW H × List MemPlace} (h : DataW.trod enc Tryz.prog w base spare held fuel 30 [v] = some x) : ∃ A n c P, v = .slice A n c ∧ PkRow w w.heap.size A n P ∧ n ≤ c := by
  rcases open_cells (e := 49) Tryz.underlying30 Tryz.underlying49 (by kernel_rfl) (by kernel_rfl) (fun j f hj => by
    match j, hj with
    | 0, hj => injection hj with hj; subst hj; exact Tryz.underlying3
    | 1, hj => injection hj with hj; subst hj; exact Tryz.underlying3
    | 2, hj => injection hj with hj; subst hj; exact Tryz.underlying3
    | 3, hj => injection hj with hj; subst hj; exact Tryz.underlying3
    | j + 4, hj => cases hj) h with h0 | ⟨a, len, cap, hcs, hl, hc⟩
  · injection h0 with h0
    exact ⟨none, 0, 0, fun _ => ⟨0, 0, 0, 0⟩, h0, fun k hk => absurd hk (by omega), Nat.le_refl _⟩
  · injection hcs with hcs
    refine ⟨some a, len, cap, fun k => ⟨numAt w (a.add (k * 4 + 0)), numAt w (a.add (k * 4 + 1)), numAt w (a.add (k * 4 + 2)), numAt w (a.add (k * 4 + 3))⟩, hcs, fun k hk => ?_, hl⟩
    have c0 := hc k 0 hk (by decide)
    have c1 := hc k 1 hk (by decide)
    have c2 := hc k 2 hk (by decide)
    have c3 := hc k 3 hk (by decide)
    have hsp : a.spot = none := by
      have := hc 0 0 (by omega) (by decide)
      simpa [Addr.add] using World.cell?_spot this
    obtain ⟨b, o, sp⟩ := a
    simp only at hsp
    subst hsp
    have e : ∀ j, (⟨b, o, none⟩ : Addr).add j = ⟨b, o + j, none⟩ := fun j => Addr.add_lit _ _ _
    exact ⟨b, o, rfl, by have := World.block_lt_of_cell? w _ c0; rw [e] at this; exact this, (congrArg w.cell? (e (k * 4 + 0))).symm.trans c0, (congrArg w.cell? (e (k * 4 + 1))).symm.trans c1, (congrArg w.cell? (e (k * 4 + 2))).symm.trans c2, (congrArg w.cell? (e (k * 4 + 3))).symm.trans c3⟩
set_option maxRecDepth 100000 in
theorem open_gdrow {fuel : Nat} {v : Value} {x : DataW H × List MemPlace} (h : DataW.trod enc Tryz.prog w base spare held fuel 31 [v] = some x) : ∃ A n c G, v = .slice A n c ∧ GdRow w w.heap.size A n G ∧ n ≤ c := by
  rcases open_cells (e := 58) Tryz.underlying31 Tryz.underlying58 (by kernel_rfl) (by kernel_rfl) (fun j f hj => by
    match j, hj with
    | 0, hj => injection hj with hj; subst hj; exact Tryz.underlying3
    | 1, hj => injection hj with hj; subst hj; exact Tryz.underlying3
    | j + 2, hj => cases hj) h with h0 | ⟨a, len, cap, hcs, hl, hc⟩
  · injection h0 with h0
    exact ⟨none, 0, 0, fun _ => ⟨0, 0⟩, h0, fun k hk => absurd hk (by omega), Nat.le_refl _⟩
  · injection hcs with hcs
    refine ⟨some a, len, cap, fun k => ⟨numAt w (a.add (k * 2 + 0)), numAt w (a.add (k * 2 + 1))⟩, hcs, fun k hk => ?_, hl⟩
    have c0 := hc k 0 hk (by decide)
    have c1 := hc k 1 hk (by decide)
    have hsp : a.spot = none := by
      have := hc 0 0 (by omega) (by decide)
      simpa [Addr.add] using World.cell?_spot this
    obtain ⟨b, o, sp⟩ := a
    simp only at hsp
    subst hsp
    have e : ∀ j, (⟨b, o, none⟩ : Addr).add j = ⟨b, o + j, none⟩ := fun j => Addr.add_lit _ _ _
    exact ⟨b, o, rfl, by have := World.block_lt_of_cell? w _ c0; rw [e] at this; exact this, (congrArg w.cell? (e (k * 2 + 0))).symm.trans c0, (congrArg w.cell? (e (k * 2 + 1))).symm.trans c1⟩
set_option maxRecDepth 100000 in
theorem open_introw {fuel : Nat} {v : Value} {x : DataW H × List MemPlace} (h : DataW.trod enc Tryz.prog w base spare held fuel 38 [v] = some x) : ∃ A n c X, v = .slice A n c ∧ IntRow w w.heap.size A n X ∧ n ≤ c := by
  rcases open_nums (e := 3) Tryz.underlying38 Tryz.underlying3 (by kernel_rfl) h with h0 | ⟨a, len, cap, hcs, hl, hc⟩
  · injection h0 with h0
    exact ⟨none, 0, 0, fun _ => 0, h0, fun k hk => absurd hk (by omega), Nat.le_refl _⟩
  · injection hcs with hcs
    refine ⟨some a, len, cap, fun k => numAt w (a.add k), hcs, fun k hk => ?_, hl⟩
    have c0 := hc k hk
    have hsp : a.spot = none := by
      have := hc 0 (by omega)
      simpa [Addr.add] using World.cell?_spot this
    obtain ⟨b, o, sp⟩ := a
    simp only at hsp
    subst hsp
    have e : ∀ j, (⟨b, o, none⟩ : Addr).add j = ⟨b, o + j, none⟩ := fun j => Addr.add_lit _ _ _
    exact ⟨b, o, rfl, by have := World.block_lt_of_cell? w _ c0; rw [e] at this; exact this, (congrArg w.cell? (e k)).symm.trans c0⟩
set_option maxRecDepth 100000 in
/-- a store by value -/
theorem open_store {r : Reach} {b0 : Nat} {v : Value} {d : DataW H} {p : List MemPlace} (hv : Value.okWide Tryz.prog w r b0 33 v) (h : DataW.Trod enc Tryz.prog w base spare held 33 v d p) :
    ∃ (st : St) (pA gA : Option Addr) (pc gc : Nat), v = stV pA st.n pc gA st.m gc st.lots ∧ PkRow w w.heap.size pA st.n st.P ∧ GdRow w w.heap.size gA st.m st.G ∧ st.n ≤ pc ∧ st.m ≤ gc := by
  obtain ⟨v0, v1, v2, y0, y1, y2, n, rfl, _, _, h0, h1, h2⟩ := open_agg3 Tryz.underlying33 (by kernel_rfl) (by kernel_rfl) hv h
  obtain ⟨pA, pn, pc, P, rfl, hp, hpc⟩ := open_pkrow h0
  obtain ⟨gA, gn, gc, G, rfl, hg, hgc⟩ := open_gdrow h1
  obtain ⟨z, hz, _⟩ := DataW.trod_int Tryz.underlying3 h2
  injection hz with hz
  subst hz
  exact ⟨⟨pn, P, gn, G, z⟩, pA, gA, pc, gc, rfl, hp, hg, hpc, hgc⟩
end
theorem own_knob : ownKnob Tryz.prog.godebug = none := by kernel_rfl
theorem laid_out : laidOutB Tryz.prog = true := by kernel_rfl
end Go.Proofs.YtmbkngfcbgbeiaaGreat

set_option linter.unusedSimpArgs false
set_option linter.unusedVariables false
namespace Go.Proofs.YtmbkngfcbgbeiaaGreat
open Go.ChangeShapes Go.WideShapes Go.ChangeAt Go.RowKit Go.Deep Go.Joins

section
variable {H : Type} {enc : TypeId × Value → H} {w : World} {base : Nat} {spare : Nat → Bool} {held : Bool}

set_option maxRecDepth 100000 in
theorem open_bytes {fuel : Nat} {v : Value} {x : DataW H × List MemPlace} (h : DataW.trod enc Tryz.prog w base spare held fuel 22 [v] = some x) : ∃ A n c, v = .slice A n c ∧ ByIn w w.heap.size A n ∧ n ≤ maxLen := by
  rcases open_slice (e := 5) Tryz.underlying22 h with ⟨h0, _⟩ | ⟨a, len, cap, m, n, D, Pl, hcs, hb, hl, hm, hmm, hx, hi⟩
  · injection h0 with h0
    exact ⟨none, 0, 0, h0, fun k hk => absurd hk (by omega), Nat.zero_le _⟩
  · injection hcs with hcs
    have each : ∀ i, i < len → ∃ z, w.cell? (a.add i) = some (.int .u8 z) ∧ 0 ≤ z ∧ z ≤ 255 := fun k hk => by
      have him : k < m := by rw [hmm]; split <;> omega
      obtain ⟨cs', hc, ht'⟩ := hi k him
      rw [show Tryz.prog.cellsOf 5 = 1 by kernel_rfl, Nat.mul_one] at hc
      obtain ⟨_, hcl, hat⟩ := World.cells?_some hc
      obtain ⟨z, hz, hw⟩ := DataW.trod_int Tryz.underlying5 ht'
      have hcell := hat 0 (by omega)
      rw [hz] at hcell
      exact ⟨z, by simpa [Addr.add] using hcell, bounds_u8 hw.2⟩
    refine ⟨some a, len, cap, hcs, fun k hk => ?_, by omega⟩
    obtain ⟨z, hc0, hz⟩ := each k hk
    have hsp : a.spot = none := by
      obtain ⟨z0, h10, _⟩ := each 0 (by omega)
      simpa [Addr.add] using World.cell?_spot h10
    obtain ⟨b, o, sp⟩ := a
    simp only at hsp
    subst hsp
    have e : ∀ j, (⟨b, o, none⟩ : Addr).add j = ⟨b, o + j, none⟩ := fun j => Addr.add_lit _ _ _
    exact ⟨b, o, z, rfl, by have := World.block_lt_of_cell? w _ hc0; rw [e] at this; exact this, (congrArg w.cell? (e k)).symm.trans hc0, hz⟩
end
end Go.Proofs.YtmbkngfcbgbeiaaGreat

set_option linter.unusedSimpArgs false
set_option linter.unusedVariables false
namespace Go.Proofs.YtmbkngfcbgbeiaaGreat
open Go.RowKit Go.Shelf

/-- cells of a picking -/
def pkC (x : Pk) : List Value := [.int .i64 x.s, .int .i64 x.w, .int .i64 x.o, .int .i64 x.f]
theorem pkC_len (x : Pk) : (pkC x).length = 4 := rfl
theorem pkC_one (x : Pk) : ∀ v ∈ pkC x, v.oneCell' = true := by
  intro v hv
  simp only [pkC, List.mem_cons, List.not_mem_nil, or_false] at hv
  rcases hv with rfl | rfl | rfl | rfl <;> rfl
theorem ownPk_of {w : World} {base n : Nat} {v : Value} {P : Nat → Pk} (h : w.ownsRow base 49 4 v n (rowC pkC P n)) : ∃ A c, v = .slice A n c ∧ OwnPk w base A n P ∧ n ≤ c := by
  rcases h.2 with ⟨rfl, h0⟩ | ⟨g, cap, cur, rfl, hb, hg, hc, _⟩
  · exact ⟨none, 0, by rw [h0], fun k hk => by omega, by omega⟩
  · refine ⟨some ⟨g, 0, none⟩, cap, rfl, fun k hk => ?_, hc⟩
    have key : ∀ j v, j < 4 → (pkC (P k))[j]? = some v → w.cell? ⟨g, k * 4 + j, none⟩ = some v := fun j v hj hv => by
      have h1 := h.cells (g := g) rfl (k * 4 + j) v (by rw [rowC_get pkC_len P n k j hk hj]; exact hv)
      rw [add_at] at h1
      exact h1
    exact ⟨g, rfl, hb, key 0 _ (by omega) rfl, key 1 _ (by omega) rfl, key 2 _ (by omega) rfl, key 3 _ (by omega) rfl, fun i => frozen_of_row _ _ _ _ _ hg⟩
theorem mkInts (n : Nat) (hn : n ≤ 1000) (w : World) : (Instr.makeSlice 38 (.int .i64 (n : Int)) (.int .i64 (n : Int))).run Tryz.prog w = .ok (.slice (some ⟨w.heap.size, 0, none⟩) n n) (w.alloc (.cells (madeCells (Value.cells (.int .i64 0)) n) 3)) := by
  obtain ⟨i0, hi, hz0, hz1, hz2⟩ := info_parts infoInt
  have h := run_make (P := Tryz.prog) w 38 3 i0 _ ints_under hi hz0 .i64 .i64 (n : Int) (n : Int) (by omega) (Int.le_refl _) (by rw [hz2]; omega) (by omega)
  rw [hz1, Int.toNat_natCast, Nat.mul_one] at h
  exact h
theorem madeInt_zero (n j : Nat) (h : j < n) : (madeCells (Value.cells (.int .i64 0)) n)[j]? = some (.int .i64 0) := by
  have hs : (madeCells (Value.cells (.int .i64 0)) n).size = n := size_madeCells _ _
  rw [Array.getElem?_eq_getElem (by omega)]
  congr 1
  simp only [madeCells, Array.getElem_map, Array.getElem_range]
  show (#[Value.int .i64 0] : Array Value)[j % 1]! = _
  rw [Nat.mod_one]
  rfl
theorem ownInt_made (n : Nat) (w : World) : OwnInt (w.alloc (.cells (madeCells (Value.cells (.int .i64 0)) n) 3)) w.heap.size (some ⟨w.heap.size, 0, none⟩) n (fun _ => 0) := fun k hk =>
  ⟨w.heap.size, rfl, Nat.le_refl _, cell_new_of rfl (madeInt_zero n k hk), fun i => fro_new_of rfl⟩
/-- a store under way: its pickings, and one grade -/
structure PiAt (w : World) (sb gb : Nat) (g : Int) (v : Value) : Prop where
  s0 : w.cell? ⟨sb, 0, none⟩ = some v
  s1 : w.cell? ⟨sb, 1, none⟩ = some (.slice (some ⟨gb, 0, none⟩) 1 1)
  s2 : w.cell? ⟨sb, 2, none⟩ = some (.int .i64 1)
  f0 : w.frozen? ⟨sb, 0, none⟩ = false
  g0 : w.cell? ⟨gb, 0, none⟩ = some (.int .i64 g)
  g1 : w.cell? ⟨gb, 1, none⟩ = some (.int .i64 5)
theorem PiAt.same {w w' : World} {sb gb : Nat} {g : Int} {v : Value} (h : PiAt w sb gb g v) (hs : w'.heap[sb]? = w.heap[sb]?) (hg : w'.heap[gb]? = w.heap[gb]?) : PiAt w' sb gb g v :=
  ⟨cell_same hs h.s0, cell_same hs h.s1, cell_same hs h.s2, fro_same hs h.f0, cell_same hg h.g0, cell_same hg h.g1⟩
theorem PiAt.lt {w : World} {sb gb : Nat} {g : Int} {v : Value} (h : PiAt w sb gb g v) : sb < w.heap.size ∧ gb < w.heap.size := ⟨World.block_lt_of_cell? w _ h.s0, World.block_lt_of_cell? w _ h.g0⟩
theorem PiAt.later {w w' : World} {sb gb : Nat} {g : Int} {v : Value} (h : PiAt w sb gb g v) (hb : Below w.heap.size w w') : PiAt w' sb gb g v := h.same (hb.block _ h.lt.1) (hb.block _ h.lt.2)
theorem PiAt.set0 {w : World} {sb gb : Nat} {g : Int} {v : Value} (h : PiAt w sb gb g v) (hne : gb ≠ sb) (u : Value) : PiAt (w.setCell ⟨sb, 0, none⟩ u) sb gb g u := by
  have hg := set_heap (w := w) (a := ⟨sb, 0, none⟩) u (show gb ≠ sb from hne)
  exact ⟨by simp [go_sem, h.s0], by simp [go_sem, h.s1], by simp [go_sem, h.s2], fro_set_of _ h.f0, cell_same hg h.g0, cell_same hg h.g1⟩
/-- what is picked, from the heaps and what slips -/
def heapM (G : Nat → HndA) (nh : Nat) (T : Nat → Nat → Int) (nt : Nat) (k : Nat) : Int := sumN (heapsAt (gh G) nh T nt k) 5
def slipM (G : Nat → HndA) (nh : Nat) (T : Nat → Nat → Int) (nt : Nat) (k : Nat) : Int := wrongN (heapM G nh T nt k) (G k).h.sl
theorem heapM_bd {G : Nat → HndA} {nh nt : Nat} {T : Nat → Nat → Int} (hok : BeltOk nt nh T G) (k : Nat) : (∀ q, q < 5 → 0 ≤ heapsAt (gh G) nh T nt k q ∧ heapsAt (gh G) nh T nt k q ≤ 480) ∧ (0 ≤ heapM G nh T nt k ∧ heapM G nh T nt k ≤ 2400) ∧ 0 ≤ slipM G nh T nt k ∧ slipM G nh T nt k ≤ heapM G nh T nt k := by
  have h8 := hok.t8
  have h1 : ∀ q, q < 5 → 0 ≤ heapsAt (gh G) nh T nt k q ∧ heapsAt (gh G) nh T nt k q ≤ 480 := fun q hq => by
    have := heapsAt_bd (G := gh G) (nh := nh) (T := T) hok.h hok.t nt k q hq
    omega
  have h2 := sumN_bd2 (heapsAt (gh G) nh T nt k) 5 480 h1
  have h3 : 0 ≤ heapM G nh T nt k ∧ heapM G nh T nt k ≤ 2400 := ⟨h2.1, by have := h2.2; unfold heapM; omega⟩
  exact ⟨h1, h3, wrong_bd h3.1 (hok.h k).2.2⟩

/-- the store that was picked, in its box -/
structure SAt (W w : World) (B sb gb : Nat) (g : Int) (st : St) (pA : Option Addr) (pc : Nat) : Prop where
  p : PiAt w sb gb g (.slice pA st.n pc)
  r : StRow w B st pA pc (some ⟨gb, 0, none⟩) 1
  b : Below W.heap.size W w
theorem SAt.later {W w w' : World} {B sb gb : Nat} {g : Int} {st : St} {pA : Option Addr} {pc : Nat} (h : SAt W w B sb gb g st pA pc) (hb : Below w.heap.size w w') : SAt W w' B sb gb g st pA pc :=
  ⟨h.p.later hb, h.r.later (hb.mono h.r.lt), h.b.trans (hb.mono h.b.size)⟩
theorem iTr0 (a b c d e : Value) (w : World) : (Instr.index 60 (.agg #[a, b, c, d, e]) (.int .i64 0)).run Tryz.prog w = .ok a w := by kernel_rfl
theorem iTr1 (a b c d e : Value) (w : World) : (Instr.index 60 (.agg #[a, b, c, d, e]) (.int .i64 1)).run Tryz.prog w = .ok b w := by kernel_rfl
theorem iTr2 (a b c d e : Value) (w : World) : (Instr.index 60 (.agg #[a, b, c, d, e]) (.int .i64 2)).run Tryz.prog w = .ok c w := by kernel_rfl
theorem iTr3 (a b c d e : Value) (w : World) : (Instr.index 60 (.agg #[a, b, c, d, e]) (.int .i64 3)).run Tryz.prog w = .ok d w := by kernel_rfl
theorem iTr4 (a b c d e : Value) (w : World) : (Instr.index 60 (.agg #[a, b, c, d, e]) (.int .i64 4)).run Tryz.prog w = .ok e w := by kernel_rfl
theorem idxTr (X : Nat → Int) (m : Nat) (hm : m < 5) (w : World) : (Instr.index 60 (trV X) (.int .i64 (m : Int))).run Tryz.prog w = .ok (.int .i64 (X m)) w := by
  have h5 : m = 0 ∨ m = 1 ∨ m = 2 ∨ m = 3 ∨ m = 4 := by omega
  rcases h5 with rfl | rfl | rfl | rfl | rfl
  · exact iTr0 _ _ _ _ _ w
  · exact iTr1 _ _ _ _ _ w
  · exact iTr2 _ _ _ _ _ w
  · exact iTr3 _ _ _ _ _ w
  · exact iTr4 _ _ _ _ _ w

set_option maxRecDepth 100000 in
set_option maxHeartbeats 0 in
theorem picked_law (nA : Option Addr) (nn nc : Nat) (share : Int) (W : World) (hby : ByIn W W.heap.size nA nn) (hln : nn ≤ 9223372036854775807) :
    Calls Tryz.prog 4 #[.slice nA nn nc, .int .i64 share] W fun e W' => e = .returned (.bool true) ∧ Below W.heap.size W W' := by
  have HBY := Lib.hid hby
  clear hby
  obtain ⟨i0, hi, hz0, hz1, hz2⟩ := info_parts infoPk
  go_enter Tryz.func4, Tryz.ntmps4
  go_wp2_with fail
  refine (fill_any W.heap.size nA nn nc _ (Nat.le_refl _) HBY.out).mono ?_
  rintro e w1 ⟨cb, rfl, hcb, hb1, hch⟩
  have HB1 := Lib.hid hb1
  have HC1 := Lib.hid hch
  have hs1 := hb1.size
  have hcl : cb < w1.heap.size := by
    obtain ⟨u, z, _, h⟩ := hch
    exact h.lt
  clear hb1 hch
  go_wp2_with fail
  refine (bmade_any W.heap.size cb nA nn nc hln _ hs1 hcl HC1.out).mono ?_
  rintro e w2 ⟨nt, nh, T, G, tA, hA, tc, hc, rfl, hok, hnt, hnh, hrow, hg2, -, htc, hhc⟩
  have HOK := Lib.hid hok
  have HRW := Lib.hid hrow
  have HB2 := Lib.hid (HB1.out.trans (gb_below hg2 hs1 hcb))
  clear hok hrow hg2 HB1 HC1 HBY
  go_wp2_with fail
  have hba : Below w2.heap.size w2 (w2.alloc (.cells #[.slice tA nt tc, .slice hA nh hc] 26)) := (by repeat (first | (with_reducible exact Below.refl _ _) | (with_reducible refine Below.drew ?_) | (with_reducible refine below_drewN ?_ _) | ((with_reducible refine below_alloc ?_ ?_ _); · (first | exact Nat.le_refl _ | omega | (simp; done) | (simp; omega) | (simp at *; omega))) | ((with_reducible refine below_set ?_ ?_ _); · (first | exact Nat.le_refl _ | omega | (simp; done) | (simp; omega) | (simp at *; omega))) | ((with_reducible refine below_via (by with_reducible assumption) ?_ ?_); · (first | exact Nat.le_refl _ | omega | (simp; done) | (simp; omega) | (simp at *; omega)))))
  have HRa := Lib.hid ((HRW.out.later hba).up)
  refine (Heaps_any nt nh T G HOK.out tA hA tc hc _ HRa.out).mono ?_
  rintro e w3 ⟨hb, rfl, hhb, hown3, hb3⟩
  have HH3 := Lib.hid hown3
  have HR3 := Lib.hid ((HRa.out.later hb3).up)
  have HQ3 : Hid (w3.cell? ⟨w2.heap.size, 0, none⟩ = some (.slice tA nt tc) ∧ w3.cell? ⟨w2.heap.size, 1, none⟩ = some (.slice hA nh hc)) := Lib.hid ⟨cell_below_of hb3 (by (repeat' refine And.intro ?_ ?_) <;> (repeat (first | (with_reducible assumption) | (simp; done) | (with_reducible refine cell_drew_of ?_) | (with_reducible refine cell_drewN_of ?_) | (with_reducible refine cell_below_of (by with_reducible assumption) ?_) | ((with_reducible refine cell_new_of ?_ ?_) <;> (first | (with_reducible rfl) | (simp; done))) | ((with_reducible refine fro_new_of ?_) <;> (first | (with_reducible rfl) | (simp; done))) | (with_reducible refine cell_alloc_of _ ?_) | (with_reducible refine cell_set_of _ (by (first | exact Nat.le_refl _ | omega | (simp; done) | (simp; omega))) ?_) | (with_reducible refine fro_drew_of ?_) | (with_reducible refine fro_drewN_of ?_) | (with_reducible refine fro_below_of (by with_reducible assumption) (by (first | exact Nat.le_refl _ | omega | (simp; done) | (simp; omega))) ?_) | (with_reducible refine fro_alloc_of _ (by (first | exact Nat.le_refl _ | omega | (simp; done) | (simp; omega))) ?_) | (with_reducible refine fro_set_of _ ?_)))), cell_below_of hb3 (by (repeat' refine And.intro ?_ ?_) <;> (repeat (first | (with_reducible assumption) | (simp; done) | (with_reducible refine cell_drew_of ?_) | (with_reducible refine cell_drewN_of ?_) | (with_reducible refine cell_below_of (by with_reducible assumption) ?_) | ((with_reducible refine cell_new_of ?_ ?_) <;> (first | (with_reducible rfl) | (simp; done))) | ((with_reducible refine fro_new_of ?_) <;> (first | (with_reducible rfl) | (simp; done))) | (with_reducible refine cell_alloc_of _ ?_) | (with_reducible refine cell_set_of _ (by (first | exact Nat.le_refl _ | omega | (simp; done) | (simp; omega))) ?_) | (with_reducible refine fro_drew_of ?_) | (with_reducible refine fro_drewN_of ?_) | (with_reducible refine fro_below_of (by with_reducible assumption) (by (first | exact Nat.le_refl _ | omega | (simp; done) | (simp; omega))) ?_) | (with_reducible refine fro_alloc_of _ (by (first | exact Nat.le_refl _ | omega | (simp; done) | (simp; omega))) ?_) | (with_reducible refine fro_set_of _ ?_))))⟩
  have HB3 := Lib.hid (HB2.out.trans ((hba.mono HB2.out.size).trans (hb3.mono (by have := HB2.out.size; simp; omega))))
  obtain ⟨q0, q1⟩ := HQ3.out
  have hz3 := hb3.size
  simp only [World.size_alloc] at hz3 hhb
  clear hown3 hba hb3 HRa HRW
  go_wp2_with fail
  refine (Wrong_any nt nh T G HOK.out tA hA tc hc _ HR3.out).mono ?_
  rintro e w4 ⟨wA, wc, rfl, hown4, hwc, hb4⟩
  have HW4 := Lib.hid hown4
  have HH4 : Hid (OwnTr w4 hb nh (heapsAt (gh G) nh T nt)) := Lib.hid (fun k hk m hm => ⟨cell_below_of hb4 (HH3.out k hk m hm).1, fro_below_cell hb4 (HH3.out k hk m hm).1 (HH3.out k hk m hm).2⟩)
  have HB4 := Lib.hid (HB3.out.trans (hb4.mono HB3.out.size))
  have hz4 := hb4.size
  have qq0 := cell_below_of hb4 q0
  have qq1 := cell_below_of hb4 q1
  clear hown4 hb4 HH3 HR3 HQ3 HB3 HB2 q0 q1
  go_wp2_with fail
  refine (wrap_any share 101 (by omega) _).mono ?_
  rintro e w ⟨g, rfl, hg0, hg1, rfl⟩
  have hgg : 0 ≤ g ∧ g ≤ 100 := by omega
  clear hg0 hg1 qq0 qq1
  go_upto_region 7 with fail
  refine wp_world (fun W5 => PiAt W5 (w4.heap.size + 1) w4.heap.size g (.slice none 0 0) ∧ Below w4.heap.size w4 W5 ∧ w4.heap.size + 2 ≤ W5.heap.size) ⟨⟨(by (repeat' refine And.intro ?_ ?_) <;> (repeat (first | (with_reducible assumption) | (simp; done) | (with_reducible refine cell_drew_of ?_) | (with_reducible refine cell_drewN_of ?_) | (with_reducible refine cell_below_of (by with_reducible assumption) ?_) | ((with_reducible refine cell_new_of ?_ ?_) <;> (first | (with_reducible rfl) | (simp; done))) | ((with_reducible refine fro_new_of ?_) <;> (first | (with_reducible rfl) | (simp; done))) | (with_reducible refine cell_alloc_of _ ?_) | (with_reducible refine cell_set_of _ (by (first | exact Nat.le_refl _ | omega | (simp; done) | (simp; omega))) ?_) | (with_reducible refine fro_drew_of ?_) | (with_reducible refine fro_drewN_of ?_) | (with_reducible refine fro_below_of (by with_reducible assumption) (by (first | exact Nat.le_refl _ | omega | (simp; done) | (simp; omega))) ?_) | (with_reducible refine fro_alloc_of _ (by (first | exact Nat.le_refl _ | omega | (simp; done) | (simp; omega))) ?_) | (with_reducible refine fro_set_of _ ?_)))), (by (repeat' refine And.intro ?_ ?_) <;> (repeat (first | (with_reducible assumption) | (simp; done) | (with_reducible refine cell_drew_of ?_) | (with_reducible refine cell_drewN_of ?_) | (with_reducible refine cell_below_of (by with_reducible assumption) ?_) | ((with_reducible refine cell_new_of ?_ ?_) <;> (first | (with_reducible rfl) | (simp; done))) | ((with_reducible refine fro_new_of ?_) <;> (first | (with_reducible rfl) | (simp; done))) | (with_reducible refine cell_alloc_of _ ?_) | (with_reducible refine cell_set_of _ (by (first | exact Nat.le_refl _ | omega | (simp; done) | (simp; omega))) ?_) | (with_reducible refine fro_drew_of ?_) | (with_reducible refine fro_drewN_of ?_) | (with_reducible refine fro_below_of (by with_reducible assumption) (by (first | exact Nat.le_refl _ | omega | (simp; done) | (simp; omega))) ?_) | (with_reducible refine fro_alloc_of _ (by (first | exact Nat.le_refl _ | omega | (simp; done) | (simp; omega))) ?_) | (with_reducible refine fro_set_of _ ?_)))), (by (repeat' refine And.intro ?_ ?_) <;> (repeat (first | (with_reducible assumption) | (simp; done) | (with_reducible refine cell_drew_of ?_) | (with_reducible refine cell_drewN_of ?_) | (with_reducible refine cell_below_of (by with_reducible assumption) ?_) | ((with_reducible refine cell_new_of ?_ ?_) <;> (first | (with_reducible rfl) | (simp; done))) | ((with_reducible refine fro_new_of ?_) <;> (first | (with_reducible rfl) | (simp; done))) | (with_reducible refine cell_alloc_of _ ?_) | (with_reducible refine cell_set_of _ (by (first | exact Nat.le_refl _ | omega | (simp; done) | (simp; omega))) ?_) | (with_reducible refine fro_drew_of ?_) | (with_reducible refine fro_drewN_of ?_) | (with_reducible refine fro_below_of (by with_reducible assumption) (by (first | exact Nat.le_refl _ | omega | (simp; done) | (simp; omega))) ?_) | (with_reducible refine fro_alloc_of _ (by (first | exact Nat.le_refl _ | omega | (simp; done) | (simp; omega))) ?_) | (with_reducible refine fro_set_of _ ?_)))), (by (repeat' refine And.intro ?_ ?_) <;> (repeat (first | (with_reducible assumption) | (simp; done) | (with_reducible refine cell_drew_of ?_) | (with_reducible refine cell_drewN_of ?_) | (with_reducible refine cell_below_of (by with_reducible assumption) ?_) | ((with_reducible refine cell_new_of ?_ ?_) <;> (first | (with_reducible rfl) | (simp; done))) | ((with_reducible refine fro_new_of ?_) <;> (first | (with_reducible rfl) | (simp; done))) | (with_reducible refine cell_alloc_of _ ?_) | (with_reducible refine cell_set_of _ (by (first | exact Nat.le_refl _ | omega | (simp; done) | (simp; omega))) ?_) | (with_reducible refine fro_drew_of ?_) | (with_reducible refine fro_drewN_of ?_) | (with_reducible refine fro_below_of (by with_reducible assumption) (by (first | exact Nat.le_refl _ | omega | (simp; done) | (simp; omega))) ?_) | (with_reducible refine fro_alloc_of _ (by (first | exact Nat.le_refl _ | omega | (simp; done) | (simp; omega))) ?_) | (with_reducible refine fro_set_of _ ?_)))), (by (repeat' refine And.intro ?_ ?_) <;> (repeat (first | (with_reducible assumption) | (simp; done) | (with_reducible refine cell_drew_of ?_) | (with_reducible refine cell_drewN_of ?_) | (with_reducible refine cell_below_of (by with_reducible assumption) ?_) | ((with_reducible refine cell_new_of ?_ ?_) <;> (first | (with_reducible rfl) | (simp; done))) | ((with_reducible refine fro_new_of ?_) <;> (first | (with_reducible rfl) | (simp; done))) | (with_reducible refine cell_alloc_of _ ?_) | (with_reducible refine cell_set_of _ (by (first | exact Nat.le_refl _ | omega | (simp; done) | (simp; omega))) ?_) | (with_reducible refine fro_drew_of ?_) | (with_reducible refine fro_drewN_of ?_) | (with_reducible refine fro_below_of (by with_reducible assumption) (by (first | exact Nat.le_refl _ | omega | (simp; done) | (simp; omega))) ?_) | (with_reducible refine fro_alloc_of _ (by (first | exact Nat.le_refl _ | omega | (simp; done) | (simp; omega))) ?_) | (with_reducible refine fro_set_of _ ?_)))), (by (repeat' refine And.intro ?_ ?_) <;> (repeat (first | (with_reducible assumption) | (simp; done) | (with_reducible refine cell_drew_of ?_) | (with_reducible refine cell_drewN_of ?_) | (with_reducible refine cell_below_of (by with_reducible assumption) ?_) | ((with_reducible refine cell_new_of ?_ ?_) <;> (first | (with_reducible rfl) | (simp; done))) | ((with_reducible refine fro_new_of ?_) <;> (first | (with_reducible rfl) | (simp; done))) | (with_reducible refine cell_alloc_of _ ?_) | (with_reducible refine cell_set_of _ (by (first | exact Nat.le_refl _ | omega | (simp; done) | (simp; omega))) ?_) | (with_reducible refine fro_drew_of ?_) | (with_reducible refine fro_drewN_of ?_) | (with_reducible refine fro_below_of (by with_reducible assumption) (by (first | exact Nat.le_refl _ | omega | (simp; done) | (simp; omega))) ?_) | (with_reducible refine fro_alloc_of _ (by (first | exact Nat.le_refl _ | omega | (simp; done) | (simp; omega))) ?_) | (with_reducible refine fro_set_of _ ?_))))⟩, (by repeat (first | (with_reducible exact Below.refl _ _) | (with_reducible assumption) | (with_reducible refine Below.drew ?_) | ((with_reducible refine below_alloc ?_ ?_ _); (· (first | exact Nat.le_refl _ | omega | (dsimp only; omega) | (simp only [World.size_alloc, World.size_drew, World.heap_drewN]; omega) | (simp; omega)))) | ((with_reducible refine below_set ?_ ?_ _); (· (first | exact Nat.le_refl _ | omega | (dsimp only; omega) | (simp only [World.size_alloc, World.size_drew, World.heap_drewN]; omega) | (simp; omega)))) | ((with_reducible refine below_via (by with_reducible assumption) ?_ ?_); (· (first | exact Nat.le_refl _ | omega | (dsimp only; omega) | (simp only [World.size_alloc, World.size_drew, World.heap_drewN]; omega) | (simp; omega)))))), by simp⟩ ?_
  rintro w5 ⟨hp5, hb5, hz5⟩
  have HP5 := Lib.hid hp5
  have HB45 := Lib.hid hb5
  have hz04 := HB4.out.size
  clear hp5 hb5
  go_wp2_with fail
  go_loopw [65] (fun i wr => ∃ (k : Nat) (v : Value), k ≤ nh ∧ i = .int .i64 k ∧ Hid (PiAt wr (w4.heap.size + 1) w4.heap.size g v) ∧ Hid (wr.ownsRow w5.heap.size 49 4 v (pickN (heapM G nh T nt) (slipM G nh T nt) k).1 (rowC pkC (pickN (heapM G nh T nt) (slipM G nh T nt) k).2 (pickN (heapM G nh T nt) (slipM G nh T nt) k).1)) ∧ Hid (Below w4.heap.size w4 wr) ∧ w5.heap.size ≤ wr.heap.size) (fun i _ => nh - (intOf i).toNat)
  case atStart => exact ⟨0, _, Nat.zero_le _, rfl, HP5, Lib.hid (World.ownsRow_nil _ _ _ _), HB45, Nat.le_refl _⟩
  case round =>
    clear HP5 HB45
    obtain ⟨k, v, hk, rfl, HP, HO, HB, hsz⟩ := hrel
    by_cases hlt : k < nh
    · have hk0 : (0 : Int) ≤ (k : Int) := by omega
      have hkn : (k : Int) < (nh : Int) := by omega
      obtain ⟨wo, rfl⟩ : ∃ wo, wo = wr := ⟨_, rfl⟩
      obtain ⟨hX, hMb, hYb⟩ := heapM_bd HOK.out k
      have d0 := cell_below_of HB.out (HH4.out k hlt 0 (by omega)).1
      have d1 := cell_below_of HB.out (HH4.out k hlt 1 (by omega)).1
      have d2 := cell_below_of HB.out (HH4.out k hlt 2 (by omega)).1
      have d3 := cell_below_of HB.out (HH4.out k hlt 3 (by omega)).1
      have d4 := cell_below_of HB.out (HH4.out k hlt 4 (by omega)).1
      rw [Nat.add_zero] at d0
      obtain ⟨wb, rfl, hwl, y0, yf⟩ := HW4.out k hlt
      have y1 := cell_below_of HB.out y0
      clear yf y0
      obtain ⟨X, eX⟩ : ∃ X, X = heapsAt (gh G) nh T nt k := ⟨_, rfl⟩
      rw [← eX] at d0 d1 d2 d3 d4 hX
      obtain ⟨M, eM⟩ : ∃ M, M = heapM G nh T nt k := ⟨_, rfl⟩
      obtain ⟨Y, eY⟩ : ∃ Y, Y = slipM G nh T nt k := ⟨_, rfl⟩
      have eMX : M = sumN X 5 := by rw [eM, eX]; rfl
      rw [← eM] at hMb hYb
      rw [← eY] at hYb
      have y1' : wo.cell? ⟨wb, k, none⟩ = some (.int .i64 Y) := by rw [eY]; exact y1
      have HX := Lib.hid hX
      have EM := Lib.hid eM
      have EY := Lib.hid eY
      have EMX := Lib.hid eMX
      clear eX eM eY eMX hX y1
      go_wp2_with fail
      go_loopw [13, 71] (fun s i wy => ∃ m : Nat, m ≤ 5 ∧ i = .int .i64 m ∧ s = .int .i64 (sumN X m) ∧ Hid (Below wo.heap.size wo wy)) (fun _ i _ => 5 - (intOf i).toNat)
      case atStart => exact ⟨0, by omega, rfl, rfl, Lib.hid (by repeat (first | (with_reducible exact Below.refl _ _) | (with_reducible assumption) | (with_reducible refine Below.drew ?_) | ((with_reducible refine below_alloc ?_ ?_ _); (· (first | exact Nat.le_refl _ | omega | (dsimp only; omega) | (simp only [World.size_alloc, World.size_drew, World.heap_drewN]; omega) | (simp; omega)))) | ((with_reducible refine below_set ?_ ?_ _); (· (first | exact Nat.le_refl _ | omega | (dsimp only; omega) | (simp only [World.size_alloc, World.size_drew, World.heap_drewN]; omega) | (simp; omega)))) | ((with_reducible refine below_via (by with_reducible assumption) ?_ ?_); (· (first | exact Nat.le_refl _ | omega | (dsimp only; omega) | (simp only [World.size_alloc, World.size_drew, World.heap_drewN]; omega) | (simp; omega))))))⟩
      case round =>
        clear d0 d1 d2 d3 d4
        obtain ⟨m, hm, rfl, rfl, HBy⟩ := hrel
        by_cases hm5 : m < 5
        · have hmi : (m : Int) < 5 := by omega
          have em : IntKind.i64.wrap ((m : Int) + 1) = (m : Int) + 1 := IntWalk.i64_in _ (by omega)
          have es : IntKind.i64.wrap (sumN X m + X m) = sumN X m + X m := IntWalk.i64_in _ (by
            have := sumN_bd2 X m 480 (fun j hj => HX.out j (by omega))
            have h1 := HX.out m hm5
            omega)
          have hix := idxTr X m hm5 wr
          go_wp2_with fail
          go_roundw
          case rel => exact ⟨m + 1, by omega, by go_num, rfl, HBy⟩
          case measure => simp [intOf]; omega
        · obtain rfl : m = 5 := by omega
          rw [← EMX.out]
          obtain ⟨wy, rfl⟩ : ∃ wy, wy = wr := ⟨_, rfl⟩
          have hnlt : ¬ ((5 : Nat) : Int) < 5 := by omega
          have y2 := cell_below_of HBy.out y1'
          have HPy := Lib.hid (HP.out.later HBy.out)
          have HOy := Lib.hid (owns_later HO.out HBy.out)
          have HBB := Lib.hid (HB.out.trans (HBy.out.mono HB.out.size))
          have hszy := HBy.out.size
          have hM0 : ¬ M < 0 := by omega
          have hY0 : ¬ Y < 0 := by omega
          have hYM : ¬ M < Y := by omega
          have hnle := pickN_le (heapM G nh T nt) (slipM G nh T nt) k
          obtain ⟨n, hn⟩ : ∃ n, n = (pickN (heapM G nh T nt) (slipM G nh T nt) k).1 := ⟨_, rfl⟩
          have HN := Lib.hid hn
          rw [← hn] at hnle
          obtain ⟨p0, p1, p2, f0, -, -⟩ := HPy.out
          by_cases h6 : M ≤ 6
          · have HP6 : Hid (pickN (heapM G nh T nt) (slipM G nh T nt) (k + 1) = (n + 1, fun j => if j = n then ⟨M, Y, 0, 0⟩ else (pickN (heapM G nh T nt) (slipM G nh T nt) k).2 j)) := Lib.hid (by rw [pickN_yes (by rw [← EM.out]; exact h6), HN.out, EM.out, EY.out])
            have hn4 : (n : Int) < 4 := by omega
            have hv1 := HOy.out.lt
            have hA1 : ∃ A c, v = .slice A n c := by
              obtain ⟨A, c, h, _⟩ := ownPk_of HOy.out
              exact ⟨A, c, by rw [HN.out]; exact h⟩
            obtain ⟨vA, vc, rfl⟩ := hA1
            have HON : Hid (wy.ownsRow w5.heap.size 49 4 (.slice vA n vc) n (rowC pkC (pickN (heapM G nh T nt) (slipM G nh T nt) k).2 n)) := Lib.hid (by rw [HN.out]; rw [HN.out] at HOy; exact HOy.out)
            clear hn HOy
            go_upto_region 19 with fail
            go_region_law (refine step_append_lies _ (by rfl) (.tmp 104) (.tmp 111) 30 (by rfl) w5.heap.size 49 i0 (.agg #[.int .i64 0, .int .i64 0, .int .i64 0, .int .i64 0]) 4 32 pks_under hi hz0 hz1 hz2 (by rfl) (by decide) (.slice vA n vc) n (rowC pkC (pickN (heapM G nh T nt) (slipM G nh T nt) k).2 n) (by rfl) (owns_later HON.out (show Below wy.heap.size wy _ from (by repeat (first | (with_reducible exact Below.refl _ _) | (with_reducible assumption) | (with_reducible refine Below.drew ?_) | ((with_reducible refine below_alloc ?_ ?_ _); (· (first | exact Nat.le_refl _ | omega | (dsimp only; omega) | (simp only [World.size_alloc, World.size_drew, World.heap_drewN]; omega) | (simp; omega)))) | ((with_reducible refine below_set ?_ ?_ _); (· (first | exact Nat.le_refl _ | omega | (dsimp only; omega) | (simp only [World.size_alloc, World.size_drew, World.heap_drewN]; omega) | (simp; omega)))) | ((with_reducible refine below_via (by with_reducible assumption) ?_ ?_); (· (first | exact Nat.le_refl _ | omega | (dsimp only; omega) | (simp only [World.size_alloc, World.size_drew, World.heap_drewN]; omega) | (simp; omega)))))))) ⟨wy.heap.size, 0, none⟩ 1 1 [.int .i64 M, .int .i64 Y, .int .i64 0, .int .i64 0] (by rfl) rfl (fun jj uu hjj => new_cells (w := wy) (t := 49) (cs := [.int .i64 M, .int .i64 Y, .int .i64 0, .int .i64 0]) jj uu hjj) (pkC_one ⟨M, Y, 0, 0⟩) (by omega) (by unfold maxLen; omega) (by omega) (by (first | omega | (simp only [World.size_alloc, World.size_drew]; omega) | (simp; done) | (simp; omega))) (wy.heap.size + 1) (by simp) ?_; intro gg cap w6 hown6 hgr6 hat6 hlt6; have s6 : w6.heap[w4.heap.size + 1]? = wy.heap[w4.heap.size + 1]? := (hgr6.block _ (by simp; omega) (fun e => by have := (hv1 _ e.symm).1; omega)).trans (Below.heap_alloc _ _ _ (by omega)); have a6 := cell_same s6 p0; have b6 := fro_same s6 f0)
            all_goals
              have hkeep : ∀ i, i < w5.heap.size → w6.heap[i]? = wy.heap[i]? := fun i hi => (hgr6.block i (by simp; omega) (fun e => by have := (hv1 i e.symm).1; omega)).trans (Below.heap_alloc _ _ _ (by omega))
              have HPF : Hid (PiAt (w6.setCell ⟨w4.heap.size + 1, 0, none⟩ (.slice (some ⟨gg, 0, none⟩) (n + 1) cap)) (w4.heap.size + 1) w4.heap.size g (.slice (some ⟨gg, 0, none⟩) (n + 1) cap)) := Lib.hid ((HPy.out.same s6 (hkeep _ (by omega))).set0 (by omega) _)
              have HOF : Hid ((w6.setCell ⟨w4.heap.size + 1, 0, none⟩ (.slice (some ⟨gg, 0, none⟩) (n + 1) cap)).ownsRow w5.heap.size 49 4 (.slice (some ⟨gg, 0, none⟩) (n + 1) cap) (pickN (heapM G nh T nt) (slipM G nh T nt) (k + 1)).1 (rowC pkC (pickN (heapM G nh T nt) (slipM G nh T nt) (k + 1)).2 (pickN (heapM G nh T nt) (slipM G nh T nt) (k + 1)).1)) := Lib.hid (by
                rw [HP6.out]
                dsimp only
                rw [← rowC_put]
                exact owns_sm hown6 (fun g h1 h2 => set_heap _ (by dsimp only; omega)))
              have HBF : Hid (Below w4.heap.size w4 (w6.setCell ⟨w4.heap.size + 1, 0, none⟩ (.slice (some ⟨gg, 0, none⟩) (n + 1) cap))) := Lib.hid ((HBB.out.trans (Below.grown (show Below w4.heap.size wy _ from (by repeat (first | (with_reducible exact Below.refl _ _) | (with_reducible assumption) | (with_reducible refine Below.drew ?_) | ((with_reducible refine below_alloc ?_ ?_ _); (· (first | exact Nat.le_refl _ | omega | (dsimp only; omega) | (simp only [World.size_alloc, World.size_drew, World.heap_drewN]; omega) | (simp; omega)))) | ((with_reducible refine below_set ?_ ?_ _); (· (first | exact Nat.le_refl _ | omega | (dsimp only; omega) | (simp only [World.size_alloc, World.size_drew, World.heap_drewN]; omega) | (simp; omega)))) | ((with_reducible refine below_via (by with_reducible assumption) ?_ ?_); (· (first | exact Nat.le_refl _ | omega | (dsimp only; omega) | (simp only [World.size_alloc, World.size_drew, World.heap_drewN]; omega) | (simp; omega))))))) hgr6 (by simp; omega) (fun k hk => by have := (hv1 k hk).1; omega))).setCell (by dsimp only; omega) _)
              have hzF : w5.heap.size ≤ (w6.setCell ⟨w4.heap.size + 1, 0, none⟩ (.slice (some ⟨gg, 0, none⟩) (n + 1) cap)).heap.size := by have := hgr6.size; simp [World.setCell] at this ⊢; omega
              clear hown6 hgr6 hat6 hlt6 s6 a6 b6 hkeep p0 p1 p2 f0 hv1 HON
              go_wp2_with fail
              go_roundw
              case rel => exact ⟨k + 1, _, by omega, by go_num, HPF, HOF, HBF, hzF⟩
              case measure => simp [intOf]; omega
          · have HP6 : Hid (pickN (heapM G nh T nt) (slipM G nh T nt) (k + 1) = pickN (heapM G nh T nt) (slipM G nh T nt) k) := Lib.hid (pickN_no (by rw [← EM.out]; exact h6))
            have HOF : Hid (wy.ownsRow w5.heap.size 49 4 v (pickN (heapM G nh T nt) (slipM G nh T nt) (k + 1)).1 (rowC pkC (pickN (heapM G nh T nt) (slipM G nh T nt) (k + 1)).2 (pickN (heapM G nh T nt) (slipM G nh T nt) (k + 1)).1)) := Lib.hid (by rw [HP6.out]; exact HOy.out)
            have hzF : w5.heap.size ≤ wy.heap.size := by omega
            clear hn
            go_wp2_with fail
            go_roundw
            case rel => exact ⟨k + 1, v, by omega, by go_num, HPy, HOF, HBB, hzF⟩
            case measure => simp [intOf]; omega
    · obtain rfl : k = nh := by omega
      have hge : ¬ (k : Int) < (k : Int) := by omega
      obtain ⟨wo, rfl⟩ : ∃ wo, wo = wr := ⟨_, rfl⟩
      have hnle := pickN_le (heapM G k T nt) (slipM G k T nt) k
      have hsh := pickN_shut (M := heapM G k T nt) (Y := slipM G k T nt) k (fun j hj => (heapM_bd HOK.out j).2.2)
      obtain ⟨pA, pc, rfl, hop, hpc⟩ := ownPk_of HO.out
      obtain ⟨st, hst⟩ : ∃ st : St, st = ⟨(pickN (heapM G k T nt) (slipM G k T nt) k).1, (pickN (heapM G k T nt) (slipM G k T nt) k).2, 1, fun _ => ⟨g, 5⟩, 1⟩ := ⟨_, rfl⟩
      have e1 : (pickN (heapM G k T nt) (slipM G k T nt) k).1 = st.n := by rw [hst]
      have e2 : (pickN (heapM G k T nt) (slipM G k T nt) k).2 = st.P := by rw [hst]
      have e3 : st.m = 1 := by rw [hst]
      have e4 : st.lots = 1 := by rw [hst]
      have e5 : ∀ j, st.G j = ⟨g, 5⟩ := fun j => by rw [hst]
      rw [e1] at hnle hsh hop hpc
      rw [e2] at hsh hop
      rw [e1] at HP
      have HSH := Lib.hid hsh
      have HOP := Lib.hid hop
      have HBW := Lib.hid (HB4.out.trans (HB.out.mono HB4.out.size))
      have E3 := Lib.hid e3
      have E4 := Lib.hid e4
      have E5 := Lib.hid e5
      clear hst e1 e2 e3 e4 e5 hsh hop HO HB HH4 HW4
      obtain ⟨p0, p1, p2, f0, g0, g1⟩ := HP.out
      by_cases hn0 : st.n = 0
      · have hn0' : ((st.n : Int) == 0) = true := by rw [hn0]; rfl
        clear g0 g1
        go_wp2_with fail
        refine (awake_any _).mono ?_
        rintro e w6 ⟨rfl, hb6⟩
        go_wp2_with fail
        go_ret
        exact ⟨rfl, HBW.out.trans (hb6.mono HBW.out.size)⟩
      · have hn0' : ((st.n : Int) == 0) = false := by rw [beq_eq_false_iff_ne]; omega
        have hn4 : 1 ≤ st.n ∧ st.n ≤ 4 := by omega
        have HST : Hid st.ok := Lib.hid (shut_ok hn4 (by rw [E3.out]; omega) (by rw [E4.out]; omega) (fun j _ => by rw [E5.out j]; unfold Gd.rng; dsimp only; omega) (fun j hj => by rw [E3.out] at hj; omega) HSH.out)
        have HS : Hid (SAt W wo wo.heap.size (w4.heap.size + 1) w4.heap.size g st pA pc) := Lib.hid ⟨HP.out, ⟨Nat.le_refl _, HOP.out.row, fun j hj => by
          rw [E3.out] at hj
          obtain rfl : j = 0 := by omega
          rw [E5.out 0]
          exact ⟨w4.heap.size, 0, rfl, HP.out.lt.2, by rw [Nat.zero_mul, Nat.add_zero]; exact g0, by rw [Nat.zero_mul, Nat.add_zero]; exact g1⟩, by omega, by rw [E3.out]; omega, hpc, by rw [E3.out]; exact Nat.le_refl _⟩, HBW.out⟩
        clear hn0 g0 g1
        go_upto_region 24 with fail
        go_loopw [123] (fun i wr => ∃ j : Nat, j ≤ st.n ∧ i = .int .i64 j ∧ Hid (SAt W wr wo.heap.size (w4.heap.size + 1) w4.heap.size g st pA pc)) (fun i _ => st.n - (intOf i).toNat)
        case atStart => exact ⟨0, Nat.zero_le _, rfl, HS⟩
        case round =>
          clear HS p0 p1 p2 f0 HP HOP
          obtain ⟨j, hj, rfl, HS⟩ := hrel
          by_cases hlt : j < st.n
          · have hj0 : (0 : Int) ≤ (j : Int) := by omega
            have hjn : (j : Int) < (st.n : Int) := by omega
            obtain ⟨wy, rfl⟩ : ∃ wy, wy = wr := ⟨_, rfl⟩
            obtain ⟨b, o, rfl, hbl, c0, c1, c2, c3⟩ := HS.out.r.p j hlt
            have hmk := mkInts st.n (by omega)
            have hs0 := HS.out.p.s0
            go_upto_region 27 with fail
            refine wp_world (fun W6 => OwnInt W6 (wy.heap.size + 1) (some ⟨wy.heap.size + 1, 0, none⟩) st.n (fun _ => 0) ∧ (W6.cell? ⟨wy.heap.size, 0, none⟩ = some (.int .i64 (st.P j).s) ∧ W6.cell? ⟨wy.heap.size, 1, none⟩ = some (.int .i64 (st.P j).w)) ∧ Below wy.heap.size wy W6 ∧ wy.heap.size + 2 ≤ W6.heap.size) ⟨?_, (by (repeat' refine And.intro ?_ ?_) <;> (repeat (first | (with_reducible assumption) | (simp; done) | (with_reducible refine cell_drew_of ?_) | (with_reducible refine cell_drewN_of ?_) | (with_reducible refine cell_below_of (by with_reducible assumption) ?_) | ((with_reducible refine cell_new_of ?_ ?_) <;> (first | (with_reducible rfl) | (simp; done))) | ((with_reducible refine fro_new_of ?_) <;> (first | (with_reducible rfl) | (simp; done))) | (with_reducible refine cell_alloc_of _ ?_) | (with_reducible refine cell_set_of _ (by (first | exact Nat.le_refl _ | omega | (simp; done) | (simp; omega))) ?_) | (with_reducible refine fro_drew_of ?_) | (with_reducible refine fro_drewN_of ?_) | (with_reducible refine fro_below_of (by with_reducible assumption) (by (first | exact Nat.le_refl _ | omega | (simp; done) | (simp; omega))) ?_) | (with_reducible refine fro_alloc_of _ (by (first | exact Nat.le_refl _ | omega | (simp; done) | (simp; omega))) ?_) | (with_reducible refine fro_set_of _ ?_)))), (by repeat (first | (with_reducible exact Below.refl _ _) | (with_reducible assumption) | (with_reducible refine Below.drew ?_) | ((with_reducible refine below_alloc ?_ ?_ _); (· (first | exact Nat.le_refl _ | omega | (dsimp only; omega) | (simp only [World.size_alloc, World.size_drew, World.heap_drewN]; omega) | (simp; omega)))) | ((with_reducible refine below_set ?_ ?_ _); (· (first | exact Nat.le_refl _ | omega | (dsimp only; omega) | (simp only [World.size_alloc, World.size_drew, World.heap_drewN]; omega) | (simp; omega)))) | ((with_reducible refine below_via (by with_reducible assumption) ?_ ?_); (· (first | exact Nat.le_refl _ | omega | (dsimp only; omega) | (simp only [World.size_alloc, World.size_drew, World.heap_drewN]; omega) | (simp; omega)))))), by simp⟩ ?_
            · have h := ownInt_made st.n (wy.alloc (.cells #[.int .i64 (st.P j).s, .int .i64 (st.P j).w, .int .i64 (st.P j).o, .int .i64 (st.P j).f] 49))
              simp only [World.size_alloc] at h
              exact h
            rintro w6 ⟨hl6, ⟨pb0, pb1⟩, hb6, hz6⟩
            obtain ⟨_, hA, -, l0, lf⟩ := hl6 j hlt
            injection hA with hA
            injection hA with hA
            subst hA
            have lf := lf j
            have HL6 := Lib.hid hl6
            have HB6 := Lib.hid hb6
            clear c0 c1 c2 c3 hs0 hl6 hb6 hmk
            go_upto_region 28 with fail
            refine wp_world (fun W7 => OwnInt W7 (wy.heap.size + 1) (some ⟨wy.heap.size + 1, 0, none⟩) st.n (fun t => if t = j then (st.P j).s else 0) ∧ (W7.cell? ⟨wy.heap.size, 0, none⟩ = some (.int .i64 (st.P j).s) ∧ W7.cell? ⟨wy.heap.size, 1, none⟩ = some (.int .i64 (st.P j).w)) ∧ Below wy.heap.size wy W7) ⟨HL6.out.put hlt _, ⟨cell_set_of _ (by dsimp only; omega) pb0, cell_set_of _ (by dsimp only; omega) pb1⟩, HB6.out.setCell (by dsimp only; omega) _⟩ ?_
            rintro w7 ⟨hl7, ⟨q0, q1⟩, hb7⟩
            have HL7 := Lib.hid hl7
            have HS7 := Lib.hid (HS.out.later hb7)
            clear hl7 hb7 HL6 HB6 l0 lf pb0 pb1
            obtain ⟨s0, s1, s2, -, g0, -⟩ := HS7.out.p
            go_wp2_with fail
            have hsh := HSH.out j hlt
            have hsu := Sure_any st _ (some ⟨b, o, none⟩) (some ⟨w4.heap.size, 0, none⟩) pc 1 (some ⟨wy.heap.size + 1, 0, none⟩) st.n st.n (fun t => if t = j then (st.P j).s else 0) w7 HS7.out.r HL7.out.row (by omega)
            have hsr : st.sureR st.n (fun t => if t = j then (st.P j).s else 0) = (if 0 < (st.P j).s ∧ 100 * (st.P j).w ≤ g * (st.P j).s then 0 else -1, 0) := by
              unfold St.sureR
              rw [if_neg (by simp [one_ask HST.out hlt]), one_sure E3.out hn4.2 hlt HSH.out, E5.out 0]
            rw [E3.out, E4.out, hsr] at hsu
            refine hsu.mono ?_
            clear hsu hsr
            rintro e w8 ⟨rfl, hb8⟩
            have HS8 := Lib.hid (HS7.out.later hb8)
            have q0' := cell_below_of hb8 q0
            have q1' := cell_below_of hb8 q1
            clear hb8 q0 q1 s0 s1 s2 g0 HS7 HL7 HS
            obtain ⟨s0, s1, s2, -, g0, -⟩ := HS8.out.p
            obtain ⟨⟨hs1, hs2⟩, ⟨hw1, hw2⟩, -, -⟩ := hsh
            have hgs := mul_bd hgg ⟨hs1, hs2⟩
            have e100 : IntKind.i64.wrap (100 * (st.P j).w) = 100 * (st.P j).w := IntWalk.i64_in _ (by omega)
            have egs : IntKind.i64.wrap (g * (st.P j).s) = g * (st.P j).s := IntWalk.i64_in _ (by omega)
            clear hgs
            by_cases hp : 0 < (st.P j).s
            · by_cases hl : 100 * (st.P j).w ≤ g * (st.P j).s
              · rw [if_pos ⟨hp, hl⟩]
                go_upto_region 29 with fail
                refine region_qbw (by kernel_rfl) (by kernel_rfl) ?_
                have x0 := cell_regrown q0'
                have x1 := cell_regrown q1'
                have x2 := cell_regrown s1
                have x3 := cell_regrown g0
                clear q0' q1' s0 s1 s2 g0
                repeat (first | go_big_quiet_step (fail) | quiet_step (fail))
                refine wpQuiet_nil ?_; intro wq hbq
                have HS9 := Lib.hid (HS8.out.later hbq)
                clear x0 x1 x2 x3 hbq HS8
                go_wp2_with fail
                go_roundw
                case rel => exact ⟨j + 1, by omega, by go_num, HS9⟩
                case measure => simp [intOf]; omega
              · rw [if_neg (by omega)]
                go_upto_region 29 with fail
                refine region_qbw (by kernel_rfl) (by kernel_rfl) ?_
                have x0 := cell_regrown q0'
                have x1 := cell_regrown q1'
                have x2 := cell_regrown s1
                have x3 := cell_regrown g0
                clear q0' q1' s0 s1 s2 g0
                repeat (first | go_big_quiet_step (fail) | quiet_step (fail))
                refine wpQuiet_nil ?_; intro wq hbq
                have HS9 := Lib.hid (HS8.out.later hbq)
                clear x0 x1 x2 x3 hbq HS8
                go_wp2_with fail
                go_roundw
                case rel => exact ⟨j + 1, by omega, by go_num, HS9⟩
                case measure => simp [intOf]; omega
            · rw [if_neg (by omega)]
              have hpf : (st.P j).s ≤ 0 := by omega
              have hp0 : (st.P j).s = 0 := by omega
              rw [hp0] at q0'
              go_upto_region 29 with fail
              refine region_qbw (by kernel_rfl) (by kernel_rfl) ?_
              have x0 := cell_regrown q0'
              have x1 := cell_regrown q1'
              have x2 := cell_regrown s1
              have x3 := cell_regrown g0
              clear q0' q1' s0 s1 s2 g0 hp hpf hp0 hs1 hs2 e100 egs
              repeat (first | go_big_quiet_step (fail) | quiet_step (fail))
              refine wpQuiet_nil ?_; intro wq hbq
              have HS9 := Lib.hid (HS8.out.later hbq)
              clear x0 x1 x2 x3 hbq HS8
              go_wp2_with fail
              go_roundw
              case rel => exact ⟨j + 1, by omega, by go_num, HS9⟩
              case measure => simp [intOf]; omega
          · obtain rfl : j = st.n := by omega
            have hjge : ¬ (st.n : Int) < (st.n : Int) := by omega
            obtain ⟨wy, rfl⟩ : ∃ wy, wy = wr := ⟨_, rfl⟩
            obtain ⟨s0, s1, s2, -, g0, -⟩ := HS.out.p
            go_wp2_with fail
            have hbe := Best_any st _ pA (some ⟨w4.heap.size, 0, none⟩) pc 1 wy HS.out.r
            obtain ⟨hpl, hz0', hz1', hpb⟩ := plan_one HST.out E3.out E4.out (by rw [E5.out 0])
            rw [E3.out, E4.out] at hbe
            refine hbe.mono ?_
            clear hbe
            rintro e w6 ⟨hb6, ⟨-, A, c, rfl, hrows, hlc⟩ | ⟨hne, -⟩⟩
            · obtain ⟨L, hL⟩ : ∃ L, L = st.planN st.lots.toNat st.all := ⟨_, rfl⟩
              obtain ⟨z, hz⟩ : ∃ z, z = (st.choose st.lots.toNat st.all).2 := ⟨_, rfl⟩
              rw [← hL] at hrows hlc hpl hpb ⊢
              rw [← hz] at hz0' hz1' hpb ⊢
              have HRO := Lib.hid hrows
              have HPB := Lib.hid hpb
              have HLL := Lib.hid hL
              have HB6 := Lib.hid (HS.out.b.trans (hb6.mono HS.out.b.size))
              have HIN : Hid (∀ j, j < L.length → (L.getD j bagZ).in_ st.all) := Lib.hid (fun j hj => by
                rw [hL] at hj ⊢
                exact (St.plan_get HST.out hj).1)
              have hlc2 : ((L.length : Nat) : Int) ≤ 1 := by omega
              clear hL hz hrows hpb hb6 s0 s1 s2 g0 HS hpl
              go_upto_region 33 with fail
              refine wp_world (fun W7 => W7.cell? ⟨w6.heap.size, 0, none⟩ = some (.int .i64 z) ∧ Below w6.heap.size w6 W7) ⟨(by (repeat' refine And.intro ?_ ?_) <;> (repeat (first | (with_reducible assumption) | (simp; done) | (with_reducible refine cell_drew_of ?_) | (with_reducible refine cell_drewN_of ?_) | (with_reducible refine cell_below_of (by with_reducible assumption) ?_) | ((with_reducible refine cell_new_of ?_ ?_) <;> (first | (with_reducible rfl) | (simp; done))) | ((with_reducible refine fro_new_of ?_) <;> (first | (with_reducible rfl) | (simp; done))) | (with_reducible refine cell_alloc_of _ ?_) | (with_reducible refine cell_set_of _ (by (first | exact Nat.le_refl _ | omega | (simp; done) | (simp; omega))) ?_) | (with_reducible refine fro_drew_of ?_) | (with_reducible refine fro_drewN_of ?_) | (with_reducible refine fro_below_of (by with_reducible assumption) (by (first | exact Nat.le_refl _ | omega | (simp; done) | (simp; omega))) ?_) | (with_reducible refine fro_alloc_of _ (by (first | exact Nat.le_refl _ | omega | (simp; done) | (simp; omega))) ?_) | (with_reducible refine fro_set_of _ ?_)))), (by repeat (first | (with_reducible exact Below.refl _ _) | (with_reducible assumption) | (with_reducible refine Below.drew ?_) | ((with_reducible refine below_alloc ?_ ?_ _); (· (first | exact Nat.le_refl _ | omega | (dsimp only; omega) | (simp only [World.size_alloc, World.size_drew, World.heap_drewN]; omega) | (simp; omega)))) | ((with_reducible refine below_set ?_ ?_ _); (· (first | exact Nat.le_refl _ | omega | (dsimp only; omega) | (simp only [World.size_alloc, World.size_drew, World.heap_drewN]; omega) | (simp; omega)))) | ((with_reducible refine below_via (by with_reducible assumption) ?_ ?_); (· (first | exact Nat.le_refl _ | omega | (dsimp only; omega) | (simp only [World.size_alloc, World.size_drew, World.heap_drewN]; omega) | (simp; omega))))))⟩ ?_
              rintro w7 ⟨z0, hb7⟩
              have HRO7 : Hid (∃ R : Nat → Option Addr × Nat × Nat, SlRow w7 w7.heap.size A L.length R ∧ ∀ j, j < L.length → (R j).2.1 = st.n ∧ IntRow w7 w7.heap.size (R j).1 st.n (L.getD j bagZ).at) := Lib.hid (by
                by_cases hl0 : L.length = 0
                · exact ⟨fun _ => (none, 0, 0), fun j hj => absurd hj (by omega), fun j hj => absurd hj (by omega)⟩
                · obtain ⟨x, hx⟩ : ∃ x, L[0]? = some x := ⟨_, List.getElem?_eq_getElem (by omega)⟩
                  obtain ⟨b, o, rb, h1, h2, h3, h4, h5⟩ := HRO.out 0 x hx
                  have hs7 := hb7.size
                  refine ⟨fun _ => (some ⟨rb, 0, none⟩, st.n, st.n), fun j hj => ?_, fun j hj => ⟨rfl, fun i hi => ?_⟩⟩
                  · obtain rfl : j = 0 := by omega
                    exact ⟨b, o, h1, by omega, cell_below_of hb7 h3⟩
                  · obtain rfl : j = 0 := by omega
                    refine ⟨rb, 0, rfl, by omega, ?_⟩
                    rw [Nat.zero_add, List.getD_eq_getElem?_getD, hx]
                    exact cell_below_of hb7 (h5 i hi))
              have HB7 := Lib.hid (HB6.out.trans (hb7.mono HB6.out.size))
              obtain ⟨R, HSL, HRR⟩ := HRO7.out
              clear hb7 HRO
              have hidx : decide (0 ≤ idxFrom (fun _ => false) L.length 0) = false := (idx_all (fun _ => false) L.length 0).2 (fun _ _ => rfl)
              have HSL7 := Lib.hid HSL
              have HRR7 := Lib.hid HRR
              have Z0 := Lib.hid z0
              have hIX := Lib.hid hidx
              clear HSL HRR hidx HRO7
              go_wp2_with fail
              refine (has_sl A L.length c R _ HSL7.out (by omega) 19 w6.heap.size (fun _ => false) (enters_of Tryz.func19 (by kernel_rfl) rfl) (fun j hj w hb => ?_)).mono ?_
              · obtain ⟨r1, r2⟩ := HRR7.out j hj
                rw [r1]
                have hin := HIN.out j hj
                have hh := picked1_any w6.heap.size (R j).1 st.n (R j).2.2 (L.getD j bagZ).at z w (cell_below_of hb Z0.out) ((r2.below hb).mono hb.size) (by omega) (fun i hi => by
                  have h1 := Bag.in_at hin i
                  have h2 := St.all_bd HST.out i
                  omega)
                rw [bag_total hn4.2 hin, (HPB.out j hj).2] at hh
                refine hh.mono ?_
                rintro e w' ⟨rfl, h⟩
                exact ⟨by simp, h⟩
              · rintro e w8 ⟨rfl, hb8⟩
                rw [hIX.out]
                have HB8 := Lib.hid (HB7.out.trans (hb8.mono HB7.out.size))
                clear hb8
                go_wp2_with fail
                refine (awake_any _).mono ?_
                rintro e w9 ⟨rfl, hb9⟩
                go_wp2_with fail
                go_ret
                exact ⟨rfl, HB8.out.trans (hb9.mono HB8.out.size)⟩
            · exact absurd (St.check_ok.2 HST.out) hne
end Go.Proofs.YtmbkngfcbgbeiaaGreat

set_option linter.unusedSimpArgs false
set_option linter.unusedVariables false
namespace Go.Proofs.YtmbkngfcbgbeiaaGreat
open Go.ChangeShapes Go.WideShapes Go.ChangeAt Go.RowKit

set_option maxRecDepth 100000 in
set_option maxHeartbeats 1000000 in
theorem picked_lifted (os : Os) (started : os.Started) (H : Type) (enc : TypeId × Value → H) :
    ReturnsInHanded {} Tryz.checked os 4 .any (Rows.lotPickedSpec.pre6 enc Tryz.prog Tryz.f4 Rows.lotPickedRow.domain false) (Rows.lotPickedSpec.post enc Tryz.prog Tryz.f4 false true false false) := by
  refine returnsInHanded_of_change (C := Tryz.checked) own_knob started (by kernel_rfl) Tryz.func4
    (ChangeSpec.witness6 (enc := enc) (C := Tryz.checked) false ⟨#[], #[.slice none 0 0, .int .i64 0], []⟩ 8 (by kernel_rfl) (by kernel_rfl) (by kernel_rfl) (by kernel_rfl)) ?_
  intro W base args ds gs before hval0 hW hcnd _
  have hval : ∀ (j : Nat) t v, Tryz.f4.params[j]? = some t → args[j]? = some v → Value.okWide Tryz.prog W .any base t v := hval0
  have hW' := hW
  obtain ⟨p, q, hA0, hV, rfl, hfz, hnd⟩ := hW
  have hA : DataW.TrodAll enc Tryz.prog W 0 (fun _ => true) true Tryz.f4.params.toList args.toList ds p := hA0
  rw [Tryz.params4] at hA hval
  obtain ⟨v0, v1, d0, d1, p0, p1, rfl, rfl, rfl, h0, h1⟩ := trodAll_two hA
  obtain ⟨rfl, rfl⟩ := trodVars_none hV
  obtain ⟨a0, n0, c0, rfl⟩ := okWide_slice Tryz.underlying22 (hval 0 22 v0 rfl rfl)
  have h0k := h0
  obtain ⟨f0, g0⟩ := h0
  obtain ⟨A, n, c, hv, hby0, hmx0⟩ := open_bytes (v := .slice a0 n0 c0) g0
  injection hv with hv1 hv2 hv3
  subst hv1 hv2 hv3
  obtain ⟨k1, rfl, rfl, rfl, w1⟩ := open_int Tryz.underlying3 (hval 1 3 v1 rfl rfl) h1
  clear hA0 hval0
  simp only [List.append_nil] at hW'
  have hlt0 : ∀ x ∈ p0, x.block < W.heap.size := fun x hx => hW'.lt x (by simp [hx])
  refine (picked_law a0 n0 c0 k1 W hby0 (by unfold maxLen at hmx0; omega)).mono fun e W' ⟨he, bel⟩ => ?_
  subst he
  exact ⟨_, rfl, _, _, _, [], _, [], hW', trodAll_mk1 (shut_bool Tryz.underlying4 true),
    trodAll_mk2 (Below.trod laid_out (by kernel_rfl) (of_decide_eq_true (by kernel_rfl)) h0k bel hlt0) (shut_int Tryz.underlying3 w1), rfl, bel.frame _, fun h => by cases h⟩

theorem lot_picked_holds : Rows.LotPickedSaid :=
  OpenClaim.holds_of_wide 4 Tryz.f4 rfl rfl rfl rfl rfl rfl rfl ⟨rfl, rfl, rfl, rfl, rfl⟩ rfl rfl rfl rfl rfl (by kernel_rfl) Tryz.func4 (by kernel_rfl)
    (of_decide_eq_true (by kernel_rfl)) (by unfold Func.isWrapper; first | (rw [if_pos (by decide +kernel)]; kernel_rfl) | (rw [if_neg (by decide +kernel)]; exact ⟨rfl, rfl⟩))
    (fun os started H enc _ => picked_lifted os started H enc)
#print axioms lot_picked_holds
end Go.Proofs.YtmbkngfcbgbeiaaGreat
