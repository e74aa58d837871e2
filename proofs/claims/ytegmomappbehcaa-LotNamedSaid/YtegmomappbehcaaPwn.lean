/- LotNamed: the joined statement. -/
import Derived.Test.YtegmomappbehcaaTp
import Derived.Test.YtegmomappbehcaaWs
import Derived.Test.YtegmomappbehcaaPwm
import Derived.Test.YtegmomappbehcaaWo
import Derived.Test.YtegmomappbehcaaWv
import Derived.Test.YtegmomappbehcaaRows
import Derived.Test.YtegmomappbehcaaPo
set_option linter.unusedSimpArgs false
set_option linter.unusedVariables false
namespace Go.Proofs.Ytegmomappbehcaa

theorem sumN_cons (f : Nat → Int) : ∀ n, sumN f (n + 1) = f 0 + sumN (fun k => f (k + 1)) n
  | 0 => by simp [sumN]
  | n + 1 => by
    show sumN f (n + 1) + f (n + 1) = f 0 + (sumN (fun k => f (k + 1)) n + f (n + 1))
    rw [sumN_cons f n]
    omega
theorem St.choOf_form (st : St) (k : Nat) (left : Bag) (l : List Bag) : (st.choOf k left l = (bagZ, 0)) ∨ ∃ b, b ∈ l ∧ st.brings b ≠ 0 ∧ st.choOf k left l = (b, st.brings b + (st.choose k (left.less b)).2) := by
  have key : ∀ (l : List Bag) (acc : Bag × Int), (l.foldl (st.chStep (fun x => (st.choose k x).2) left) acc = acc) ∨ ∃ b, b ∈ l ∧ st.brings b ≠ 0 ∧ l.foldl (st.chStep (fun x => (st.choose k x).2) left) acc = (b, st.brings b + (st.choose k (left.less b)).2) := by
    intro l
    induction l with
    | nil => intro acc; exact .inl rfl
    | cons a l ih =>
      intro acc
      rw [List.foldl_cons]
      have ha : st.chStep (fun x => (st.choose k x).2) left acc a = acc ∨ st.brings a ≠ 0 ∧ st.chStep (fun x => (st.choose k x).2) left acc a = (a, st.brings a + (st.choose k (left.less a)).2) := by
        unfold St.chStep
        by_cases hb : st.brings a = 0
        · rw [if_pos hb]; exact .inl rfl
        · rw [if_neg hb]
          split
          · exact .inr ⟨hb, rfl⟩
          · exact .inl rfl
      rcases ih (st.chStep (fun x => (st.choose k x).2) left acc a) with h | ⟨b, h1, h2, h3⟩
      · rw [h]
        rcases ha with ha | ⟨h1, h2⟩
        · exact .inl ha
        · exact .inr ⟨a, by simp, h1, h2⟩
      · exact .inr ⟨b, by simp [h1], h2, h3⟩
  exact key l _
theorem Bag.less_atp (x y : Bag) : ∀ p, (x.less y).at p = x.at p - y.at p
  | 0 => rfl
  | 1 => rfl
  | 2 => rfl
  | 3 => rfl
  | n + 4 => rfl
theorem St.planN_all {st : St} (hst : st.ok) : ∀ (k : Nat) (left : Bag), left.in_ st.all →
    (∀ x, x ∈ st.planN k left → x.in_ left ∧ st.brings x ≠ 0) ∧ (∀ p, sumN (fun j => ((st.planN k left).getD j bagZ).at p) (st.planN k left).length ≤ left.at p) ∧ sumN (fun j => st.brings ((st.planN k left).getD j bagZ)) (st.planN k left).length = (st.choose k left).2
  | 0, left, hl => ⟨fun x hx => by simp [St.planN] at hx, fun p => Int.le_trans (Int.le_refl 0) (Bag.in_at hl p).1, rfl⟩
  | k + 1, left, hl => by
    have hbd := St.choose_bd hst (k + 1) left hl
    rw [St.planN_succ]
    by_cases h0 : 0 < (st.choose (k + 1) left).2
    · rw [if_pos (by simpa using h0)]
      rcases st.choOf_form k left (bagsOf left) with h | ⟨b, h1, h2, h3⟩
      · rw [St.choose_succ, h] at h0
        exact absurd h0 (by decide)
      · have hb := mem_bagsOf.1 h1
        have hli : (left.less b).in_ st.all := Bag.in_trans (Bag.less_in hb) hl
        have e1 : (st.choose (k + 1) left).1 = b := by rw [St.choose_succ, h3]
        have e2 : (st.choose (k + 1) left).2 = st.brings b + (st.choose k (left.less b)).2 := by rw [St.choose_succ, h3]
        rw [e1, e2]
        obtain ⟨i1, i2, i3⟩ := St.planN_all hst k (left.less b) hli
        refine ⟨fun x hx => ?_, fun p => ?_, ?_⟩
        · rcases List.mem_cons.1 hx with rfl | hx
          · exact ⟨hb, h2⟩
          · exact ⟨Bag.in_trans (i1 x hx).1 (Bag.less_in hb), (i1 x hx).2⟩
        · rw [List.length_cons, sumN_cons]
          have h4 := i2 p
          rw [Bag.less_atp] at h4
          show b.at p + sumN (fun j => ((st.planN k (left.less b)).getD j bagZ).at p) (st.planN k (left.less b)).length ≤ left.at p
          omega
        · rw [List.length_cons, sumN_cons]
          show st.brings b + sumN (fun j => st.brings ((st.planN k (left.less b)).getD j bagZ)) _ = _
          rw [i3]
    · rw [if_neg (by simpa using h0)]
      refine ⟨fun x hx => by simp at hx, fun p => ?_, ?_⟩
      · exact (Bag.in_at hl p).1
      · show (0 : Int) = (st.choose (k + 1) left).2
        omega
/-- the rows of a plan that is told -/
def St.planL (st : St) (j : Nat) : Nat × (Nat → Int) := (st.n, ((st.planN st.lots.toNat st.all).getD j bagZ).at)
theorem St.lot_in {st : St} {x : Bag} (h4 : st.n ≤ 4) (h : x.in_ st.all) : st.lotErr st.n x.at = 0 := by
  unfold St.lotErr
  rw [if_neg (by simp), if_neg]
  rw [allN_iff.2 (fun k hk => by
    have h1 := St.in_all h k hk (by omega)
    simp [inB]; omega)]
  decide
theorem St.ask_in {st : St} {x : Bag} (hst : st.ok) (h : x.in_ st.all) : st.askErr st.n x.at = 0 := by
  unfold St.askErr
  rw [if_neg (by simp [St.check_ok.2 hst])]
  exact St.lot_in hst.n4 h
theorem St.plan_get {st : St} (hst : st.ok) {j : Nat} (hj : j < (st.planN st.lots.toNat st.all).length) : ((st.planN st.lots.toNat st.all).getD j bagZ).in_ st.all ∧ st.brings ((st.planN st.lots.toNat st.all).getD j bagZ) ≠ 0 := by
  have ha : st.all.in_ st.all := ⟨⟨(St.all_bd hst 0).1, Int.le_refl _⟩, ⟨(St.all_bd hst 1).1, Int.le_refl _⟩, ⟨(St.all_bd hst 2).1, Int.le_refl _⟩, (St.all_bd hst 3).1, Int.le_refl _⟩
  refine (St.planN_all hst st.lots.toNat st.all ha).1 _ ?_
  rw [List.getD_eq_getElem?_getD, List.getElem?_eq_getElem hj]
  exact List.getElem_mem _
/-- the plan that is told is one, and brings what is said -/
theorem St.plan_earns {st : St} (hst : st.ok) : st.earnsR (st.planN st.lots.toNat st.all).length st.planL = ((st.choose st.lots.toNat st.all).2, 0) := by
  have ha : st.all.in_ st.all := ⟨⟨(St.all_bd hst 0).1, Int.le_refl _⟩, ⟨(St.all_bd hst 1).1, Int.le_refl _⟩, ⟨(St.all_bd hst 2).1, Int.le_refl _⟩, (St.all_bd hst 3).1, Int.le_refl _⟩
  obtain ⟨h1, h2, h3⟩ := St.planN_all hst st.lots.toNat st.all ha
  have hl := St.planN_len st st.lots.toNat st.all
  have l0 := hst.l0
  have e : st.earnsErr (st.planN st.lots.toNat st.all).length st.planL = 0 := by
    unfold St.earnsErr
    rw [if_neg (by simp [St.check_ok.2 hst]), if_neg (by omega)]
    have hf : firstErr (fun j => st.lotErr (st.planL j).1 (st.planL j).2) (st.planN st.lots.toNat st.all).length = 0 := firstErr_zero (fun j hj => St.lot_in hst.n4 (St.plan_get hst hj).1)
    rw [hf, if_neg (by simp), if_neg]
    rw [allN_iff.2 (fun p hp => by
      have h4 := h2 p
      rw [st.all_at p (by have := hst.n4; omega), if_pos hp] at h4
      simpa [planSum, St.planL] using h4)]
    decide
  unfold St.earnsR
  rw [e, if_neg (by simp), ← h3]
  congr 1
  exact sumN_congr (fun j hj => by
    show st.brings (bagOf ((st.planN st.lots.toNat st.all).getD j bagZ).at st.n) = _
    rw [bagOf_at_in hst.n4 (St.plan_get hst hj).1])
theorem St.brings_in {st : St} (hst : st.ok) {x : Bag} (h : x.in_ st.all) : st.bringsR st.n x.at = (st.brings x, 0) := by
  unfold St.bringsR
  rw [if_neg (by simp [St.ask_in hst h]), bagOf_at_in hst.n4 h]
/-- rows of bags are rows of a plan -/
theorem RowsOf.plan {w : World} {A : Option Addr} {n : Nat} {l : List Bag} (h : RowsOf w w.heap.size A n l) (L : Nat → Nat × (Nat → Int)) (hL : ∀ j x, l[j]? = some x → L j = (n, x.at)) : PlanRow w w.heap.size A l.length L := fun k hk => by
  obtain ⟨b, o, rb, h1, h2, h3, h4, h5⟩ := h k l[k] (List.getElem?_eq_getElem hk)
  have e := hL k l[k] (List.getElem?_eq_getElem hk)
  refine ⟨b, o, some ⟨rb, 0, none⟩, n, h1, h2, by rw [e]; exact h3, by rw [e]; exact Nat.le_refl _, ?_⟩
  rw [e]
  exact fun i hi => ⟨rb, 0, rfl, h4, by rw [Nat.zero_add]; exact h5 i hi⟩
end Go.Proofs.Ytegmomappbehcaa

set_option linter.unusedSimpArgs false
set_option linter.unusedVariables false
namespace Go.Proofs.Ytegmomappbehcaa

theorem St.choOf_ge (st : St) (k : Nat) (left : Bag) : ∀ (l : List Bag) (acc : Bag × Int), acc.2 ≤ (l.foldl (st.chStep (fun x => (st.choose k x).2) left) acc).2 ∧ ∀ b, b ∈ l → st.brings b ≠ 0 → st.brings b + (st.choose k (left.less b)).2 ≤ (l.foldl (st.chStep (fun x => (st.choose k x).2) left) acc).2
  | [], acc => ⟨Int.le_refl _, fun b hb => by cases hb⟩
  | a :: l, acc => by
    simp only [List.foldl_cons]
    obtain ⟨h1, h2⟩ := St.choOf_ge st k left l (st.chStep (fun x => (st.choose k x).2) left acc a)
    have hs : acc.2 ≤ (st.chStep (fun x => (st.choose k x).2) left acc a).2 ∧ (st.brings a ≠ 0 → st.brings a + (st.choose k (left.less a)).2 ≤ (st.chStep (fun x => (st.choose k x).2) left acc a).2) := by
      unfold St.chStep
      by_cases hb : st.brings a = 0
      · rw [if_pos hb]
        exact ⟨Int.le_refl _, fun h => absurd hb h⟩
      · rw [if_neg hb]
        by_cases hlt : acc.2 < st.brings a + (st.choose k (left.less a)).2
        · rw [if_pos (by simpa using hlt)]
          exact ⟨by dsimp only; omega, fun _ => Int.le_refl _⟩
        · rw [if_neg (by simpa using hlt)]
          exact ⟨Int.le_refl _, fun _ => by omega⟩
    refine ⟨by omega, fun b hb hn => ?_⟩
    rcases List.mem_cons.1 hb with rfl | hb
    · have := hs.2 hn
      omega
    · exact h2 b hb hn
theorem St.choose_ge (st : St) (k : Nat) {left b : Bag} (hb : b.in_ left) (hn : st.brings b ≠ 0) : st.brings b + (st.choose k (left.less b)).2 ≤ (st.choose (k + 1) left).2 :=
  (St.choOf_ge st k left (bagsOf left) (bagZ, 0)).2 b (mem_bagsOf.2 hb) hn
theorem Bag.in_of_at {x y : Bag} (h : ∀ p, p < 4 → 0 ≤ x.at p ∧ x.at p ≤ y.at p) : x.in_ y :=
  ⟨h 0 (by omega), h 1 (by omega), h 2 (by omega), h 3 (by omega)⟩
theorem sumN_nn {f : Nat → Int} {n : Nat} (h : ∀ k, k < n → 0 ≤ f k) : 0 ≤ sumN f n := by
  have := sumN_le (f := fun _ => 0) (g := f) (n := n) h
  rw [sumN_zero (fun k _ => rfl)] at this
  exact this
/-- no plan brings more than the one that is told -/
theorem St.plan_le {st : St} (hst : st.ok) : ∀ (m k : Nat) (B : Nat → Bag) (left : Bag), left.in_ st.all → m ≤ k → (∀ j, j < m → ∀ p, p < 4 → 0 ≤ (B j).at p) → (∀ p, p < 4 → sumN (fun j => (B j).at p) m ≤ left.at p) → sumN (fun j => st.brings (B j)) m ≤ (st.choose k left).2
  | 0, k, B, left, hl, _, _, _ => (St.choose_bd hst k left hl).1
  | m + 1, k, B, left, hl, hk, hB, hs => by
    obtain ⟨k, rfl⟩ : ∃ q, k = q + 1 := ⟨k - 1, by omega⟩
    have h0 : ∀ p, p < 4 → (B 0).at p + sumN (fun j => (B (j + 1)).at p) m ≤ left.at p := fun p hp => by have := hs p hp; rw [sumN_cons] at this; exact this
    have hnn : ∀ p, p < 4 → 0 ≤ sumN (fun j => (B (j + 1)).at p) m := fun p hp => sumN_nn (fun j hj => hB (j + 1) (by omega) p hp)
    rw [sumN_cons]
    by_cases hb : st.brings (B 0) = 0
    · rw [hb, Int.zero_add]
      exact St.plan_le hst m (k + 1) (fun j => B (j + 1)) left hl (by omega) (fun j hj => hB (j + 1) (by omega)) (fun p hp => by have := h0 p hp; have := hB 0 (by omega) p hp; show sumN (fun j => (B (j + 1)).at p) m ≤ left.at p; omega)
    · have hin : (B 0).in_ left := Bag.in_of_at (fun p hp => by have := h0 p hp; have := hnn p hp; have := hB 0 (by omega) p hp; omega)
      have h1 := St.choose_ge st k hin hb
      have h2 := St.plan_le hst m k (fun j => B (j + 1)) (left.less (B 0)) (Bag.in_trans (Bag.less_in hin) hl) (by omega) (fun j hj => hB (j + 1) (by omega)) (fun p hp => by rw [Bag.less_atp]; have := h0 p hp; show sumN (fun j => (B (j + 1)).at p) m ≤ left.at p - (B 0).at p; omega)
      show st.brings (B 0) + sumN (fun j => st.brings (B (j + 1))) m ≤ _
      omega
theorem St.all_self {st : St} (hst : st.ok) : st.all.in_ st.all := ⟨⟨(St.all_bd hst 0).1, Int.le_refl _⟩, ⟨(St.all_bd hst 1).1, Int.le_refl _⟩, ⟨(St.all_bd hst 2).1, Int.le_refl _⟩, (St.all_bd hst 3).1, Int.le_refl _⟩
theorem costN_less (X : Nat → Int) (x y : Bag) (n : Nat) : costN X (x.less y) n = costN X x n - costN X y n := by
  unfold costN
  induction n with
  | zero => rfl
  | succ n ih =>
    simp only [sumN]
    rw [ih, Bag.less_atp, Int.mul_sub]
    omega
theorem costN_nn {X : Nat → Int} {x : Bag} {n : Nat} (hX : ∀ k, k < n → 0 ≤ X k) (hx : ∀ k, 0 ≤ x.at k) : 0 ≤ costN X x n := sumN_nn (fun k hk => Int.mul_nonneg (hX k hk) (hx k))
/-- prices that bound each lot bound all plans -/
theorem St.choose_cost {st : St} (hst : st.ok) {X : Nat → Int} {n : Nat} (hX : ∀ k, k < n → 0 ≤ X k) (hc : ∀ b, b.in_ st.all → st.brings b ≤ costN X b n) : ∀ (k : Nat) (left : Bag), left.in_ st.all → (st.choose k left).2 ≤ costN X left n
  | 0, left, hl => costN_nn hX (fun p => (Bag.in_at hl p).1)
  | k + 1, left, hl => by
    rw [St.choose_succ]
    rcases St.choOf_form st k left (bagsOf left) with h | ⟨b, h1, h2, h3⟩
    · rw [h]
      exact costN_nn hX (fun p => (Bag.in_at hl p).1)
    · rw [h3]
      have hb := mem_bagsOf.1 h1
      have h4 := hc b (Bag.in_trans hb hl)
      have h5 := St.choose_cost hst hX hc k (left.less b) (Bag.in_trans (Bag.less_in hb) hl)
      rw [costN_less] at h5
      dsimp only
      omega
theorem gprice_le {st : St} (hst : st.ok) {i : Nat} : ∀ d, i + d < st.m → (st.G (i + d)).price ≤ (st.G i).price
  | 0, _ => Int.le_refl _
  | d + 1, h => by
    have h1 := gprice_le hst (i := i) d (by omega)
    have h2 := (hst.up (i + d) (by omega)).2
    show (st.G (i + d + 1)).price ≤ _
    omega
theorem price_le {st : St} (hst : st.ok) (hm : 0 < st.m) (x : Bag) : st.price x ≤ (st.G 0).price := by
  unfold St.price
  split
  · have := gprice_le hst (i := 0) (st.first x) (by omega)
    rw [Nat.zero_add] at this
    exact this
  · have := (hst.gd 0 hm).2
    omega
theorem cost_const (c : Int) (x : Bag) (n : Nat) : costN (fun _ => c) x n = c * sumN x.at n := by
  unfold costN
  induction n with
  | zero => simp [sumN]
  | succ n ih => simp only [sumN]; rw [ih, Int.mul_add]
theorem bag_atsum {st : St} (h4 : st.n ≤ 4) {x : Bag} (h : x.in_ st.all) : sumN x.at st.n = x.size := by
  have := bag_sum (st := st) (X := x.at) h4
  rw [bagOf_at_in h4 h] at this
  exact this
/-- the price of the best grade for each sack bounds all plans -/
theorem bound_best {st : St} (hst : st.ok) (hm : 0 < st.m) {b : Bag} (hb : b.in_ st.all) : st.brings b ≤ costN (fun _ => (st.G 0).price) b st.n := by
  rw [cost_const, bag_atsum hst.n4 hb]
  unfold St.brings
  have h1 := (St.size_bd hst hb).1
  have h2 := Int.mul_le_mul_of_nonneg_left (price_le hst hm b) h1
  rw [Int.mul_comm (st.G 0).price]
  exact h2
theorem costN_congr {X Y : Nat → Int} {x : Bag} {n : Nat} (h : ∀ k, k < n → X k = Y k) : costN X x n = costN Y x n := sumN_congr (fun k hk => by rw [h k hk])
theorem bound_err {st : St} (hst : st.ok) {X : Nat → Int} (hX : ∀ k, k < st.n → 0 ≤ X k ∧ X k ≤ 100) : st.boundErr st.n X = if st.fits X st.n (bagsOf st.all) = false then 8 else 0 := by
  unfold St.boundErr
  rw [if_neg (by simp [St.check_ok.2 hst]), if_neg (by simp), if_neg]
  rw [allN_iff.2 (fun k hk => by
    have h1 := hX k hk
    simp [inB]; omega)]
  decide
/-- what the law asks of a bound -/
theorem bound_fits {st : St} (hst : st.ok) {X : Nat → Int} (hX : ∀ k, k < st.n → 0 ≤ X k ∧ X k ≤ 100) : (st.boundR st.n X = (0, 8)) ∨ ((st.boundR st.n X).2 = 0 ∧ (st.choose st.lots.toNat st.all).2 ≤ (st.boundR st.n X).1) := by
  have he := bound_err hst hX
  unfold St.boundR
  rw [he]
  by_cases hf : st.fits X st.n (bagsOf st.all) = false
  · rw [if_pos hf]
    exact .inl rfl
  · rw [if_neg hf]
    refine .inr ⟨rfl, ?_⟩
    have hc : ∀ b, b.in_ st.all → st.brings b ≤ costN X b st.n := fun b hb => by
      have h1 : st.fits X st.n (bagsOf st.all) = true := by simpa using hf
      unfold St.fits at h1
      rw [List.all_eq_true] at h1
      simpa using h1 b (mem_bagsOf.2 hb)
    exact St.choose_cost hst (fun k hk => (hX k hk).1) hc _ _ (St.all_self hst)
theorem bound_ok {st : St} (hst : st.ok) (hm : 0 < st.m) {X : Nat → Int} (hX : ∀ k, k < st.n → X k = (st.G 0).price) : (st.boundR st.n X).2 = 0 ∧ (st.choose st.lots.toNat st.all).2 ≤ (st.boundR st.n X).1 := by
  have hp := (hst.gd 0 hm).2
  have hX1 : ∀ k, k < st.n → 0 ≤ X k ∧ X k ≤ 100 := fun k hk => by rw [hX k hk]; omega
  rcases bound_fits hst hX1 with h | h
  · exfalso
    have he := bound_err hst hX1
    have hf : st.fits X st.n (bagsOf st.all) = true := by
      unfold St.fits
      rw [List.all_eq_true]
      intro b hb
      have := bound_best hst hm (mem_bagsOf.1 hb)
      rw [costN_congr (Y := fun _ => (st.G 0).price) hX]
      simpa using this
    rw [hf] at he
    unfold St.boundR at h
    rw [he] at h
    simp at h
  · exact h
theorem bagOf_off {X : Nat → Int} {n p : Nat} (h : ¬ p < n) : (bagOf X n).at p = 0 := by
  match p with
  | 0 => simp [bagOf, bagK, Bag.at, h]
  | 1 => simp [bagOf, bagK, Bag.at, h]
  | 2 => simp [bagOf, bagK, Bag.at, h]
  | 3 => simp [bagOf, bagK, Bag.at, h]
  | p + 4 => rfl
theorem tried_in {st : St} (hst : st.ok) {X : Nat → Int} (h1 : ∀ i, i < st.n → 0 ≤ X i) (h2 : ∀ i, i < st.n → X i ≤ (st.P i).s) : (bagOf X st.n).in_ st.all := bagOf_in (St.askErr_ok (lot_ask hst (fun k hk => ⟨h1 k hk, h2 k hk⟩))).2.1
/-- what is left in each picking of a plan that is tried -/
def leftP (S : Nat → Int) (Y : Nat → Nat → Int) (j : Nat) (i : Nat) : Int := S i - sumN (fun t => Y t i) j
/-- a plan whose lots were taken one by one brings no more than is told -/
theorem tried_ok {st : St} (hst : st.ok) {m : Nat} {Y : Nat → Nat → Int} (hm : (m : Int) ≤ st.lots) (hY : ∀ j, j < m → ∀ i, i < st.n → 0 ≤ Y j i) (hs : ∀ i, i < st.n → sumN (fun j => Y j i) m ≤ (st.P i).s) :
    ∃ v, st.earnsR m (fun j => (st.n, Y j)) = (v, 0) ∧ v ≤ (st.choose st.lots.toNat st.all).2 ∧ 0 ≤ v ∧ v ≤ 10000 := by
  have h4 := hst.n4
  have hle : ∀ j, j < m → ∀ i, i < st.n → Y j i ≤ (st.P i).s := fun j hj i hi => by
    have key : ∀ m, j < m → (∀ t, t < m → 0 ≤ Y t i) → Y j i ≤ sumN (fun t => Y t i) m := by
      intro m
      induction m with
      | zero => intro h; omega
      | succ m ih =>
        intro h hn
        simp only [sumN]
        by_cases e : j = m
        · subst e
          have := sumN_nn (f := fun t => Y t i) (n := j) (fun t ht => hn t (by omega))
          omega
        · have := ih (by omega) (fun t ht => hn t (by omega))
          have := hn m (by omega)
          omega
    have := key m hj (fun t ht => hY t ht i hi)
    have := hs i hi
    omega
  have he : st.earnsErr m (fun j => (st.n, Y j)) = 0 := by
    unfold St.earnsErr
    rw [if_neg (by simp [St.check_ok.2 hst]), if_neg (by omega)]
    have hf : firstErr (fun j => st.lotErr st.n (Y j)) m = 0 := firstErr_zero (fun j hj => by
      unfold St.lotErr
      rw [if_neg (by simp), if_neg]
      rw [allN_iff.2 (fun k hk => by
        have h1 := hY j hj k hk
        have h2 := hle j hj k hk
        simp [inB]; omega)]
      decide)
    dsimp only
    rw [hf, if_neg (by simp), if_neg]
    rw [allN_iff.2 (fun p hp => by
      have := hs p hp
      exact decide_eq_true (p := sumN (fun j => Y j p) m ≤ (st.P p).s) this)]
    decide
  refine ⟨_, by unfold St.earnsR; rw [he]; rfl, ?_, ?_, ?_⟩
  · dsimp only
    refine St.plan_le hst m st.lots.toNat (fun j => bagOf (Y j) st.n) st.all (St.all_self hst) (by omega) (fun j hj p hp => ?_) (fun p hp => ?_)
    · by_cases hpn : p < st.n
      · rw [bagOf_at hpn hp]; exact hY j hj p hpn
      · rw [bagOf_off hpn]; exact Int.le_refl _
    · rw [st.all_at p hp]
      split
      · rename_i hpn
        have := hs p hpn
        rw [sumN_congr (g := fun j => Y j p) (fun j hj => bagOf_at hpn hp)]
        exact this
      · rename_i hpn
        rw [sumN_zero (fun j hj => bagOf_off hpn)]
        exact Int.le_refl _
  · exact sumN_nn (fun j hj => (St.brings_bd hst (tried_in hst (hY j hj) (hle j hj))).1)
  · have h3 := hst.l3
    have := sumN_bd2 (fun j => st.brings (bagOf (Y j) st.n)) m 2400 (fun j hj => St.brings_bd hst (tried_in hst (hY j hj) (hle j hj)))
    dsimp only
    omega
end Go.Proofs.Ytegmomappbehcaa

set_option linter.unusedSimpArgs false
set_option linter.unusedVariables false
namespace Go.Proofs.Ytegmomappbehcaa

theorem first_spec {st : St} {x : Bag} : ∀ r i, i ≤ st.firstFrom x r i ∧ st.firstFrom x r i ≤ i + r ∧ (st.firstFrom x r i < i + r → st.has x (st.G (st.firstFrom x r i)) = true) ∧ ∀ j, i ≤ j → j < st.firstFrom x r i → st.has x (st.G j) = false
  | 0, i => ⟨Nat.le_refl _, Nat.le_refl _, fun h => absurd h (Nat.lt_irrefl _), fun j h1 h2 => absurd h2 (by show ¬ j < i; omega)⟩
  | r + 1, i => by
    unfold St.firstFrom
    by_cases h : st.has x (st.G i) = true
    · rw [if_pos h]
      exact ⟨Nat.le_refl _, by omega, fun _ => h, fun j h1 h2 => by omega⟩
    · rw [if_neg h]
      obtain ⟨h1, h2, h3, h4⟩ := first_spec (st := st) (x := x) r (i + 1)
      refine ⟨by omega, by omega, fun hh => h3 (by omega), fun j g1 g2 => ?_⟩
      by_cases e : j = i
      · subst e; simpa using h
      · exact h4 j (by omega) g2
/-- a greater share of foul sacks holds what a smaller one does -/
theorem has_mono {st : St} {x : Bag} {g g' : Gd} (h : g.foul ≤ g'.foul) (hx : st.has x g = true) : st.has x g' = true := by
  unfold St.has at hx ⊢
  simp only [Bool.and_eq_true, decide_eq_true_iff] at hx ⊢
  refine ⟨hx.1, ?_⟩
  have := Int.mul_le_mul_of_nonneg_right h (Int.le_of_lt hx.1)
  omega
theorem most_key {st : St} {g : Gd} : ∀ (l : List Bag) (o : Bag), (l.foldl (st.mostStep g) o = o ∨ st.has (l.foldl (st.mostStep g) o) g = true) ∧ o.size ≤ (l.foldl (st.mostStep g) o).size ∧ ∀ b, b ∈ l → st.has b g = true → b.size ≤ (l.foldl (st.mostStep g) o).size
  | [], o => ⟨.inl rfl, Int.le_refl _, fun b hb => by cases hb⟩
  | c :: l, o => by
    simp only [List.foldl_cons]
    obtain ⟨h1, h2, h3⟩ := most_key (st := st) (g := g) l (st.mostStep g o c)
    have hs : (st.mostStep g o c = o ∨ st.has (st.mostStep g o c) g = true) ∧ o.size ≤ (st.mostStep g o c).size ∧ (st.has c g = true → c.size ≤ (st.mostStep g o c).size) := by
      unfold St.mostStep
      split
      · rename_i h
        simp only [Bool.and_eq_true, decide_eq_true_iff] at h
        exact ⟨.inr h.2, by omega, fun _ => Int.le_refl _⟩
      · rename_i h
        simp only [Bool.and_eq_true, decide_eq_true_iff, not_and] at h
        refine ⟨.inl rfl, Int.le_refl _, fun hc => ?_⟩
        by_cases e : o.size < c.size
        · exact absurd hc (h e)
        · omega
    refine ⟨?_, by omega, fun b hb hh => ?_⟩
    · rcases h1 with h1 | h1
      · rw [h1]
        exact hs.1
      · exact .inr h1
    · rcases List.mem_cons.1 hb with rfl | hb
      · have := hs.2.2 hh
        omega
      · exact h3 b hb hh
/-- the most of a grade: none that has it is greater -/
theorem most_is {st : St} {g : Gd} : (st.most g = bagZ ∨ st.has (st.most g) g = true) ∧ ∀ b, b.in_ st.all → st.has b g = true → b.size ≤ (st.most g).size :=
  ⟨(most_key (st := st) (g := g) (bagsOf st.all) bagZ).1, fun b hb => (most_key (st := st) (g := g) (bagsOf st.all) bagZ).2.2 b (mem_bagsOf.2 hb)⟩
theorem most_in {st : St} (hst : st.ok) {g : Gd} : (st.most g).in_ st.all := St.mostOf_in hst (fun b hb => mem_bagsOf.1 hb)
/-- a wider grade has no smaller most -/
theorem most_mono {st : St} (hst : st.ok) {g g' : Gd} (h : g.foul ≤ g'.foul) : (st.most g).size ≤ (st.most g').size := by
  rcases (most_is (st := st) (g := g)).1 with e | e
  · rw [e]
    have := (most_key (st := st) (g := g') (bagsOf st.all) bagZ).2.1
    exact this
  · exact (most_is (st := st) (g := g')).2 _ (most_in hst) (has_mono h e)
/-- sacks to spare -/
theorem spare_is {st : St} {x : Bag} {p : Nat} {g : Gd} : ∀ k, (-1 ≤ st.spareN x p g k ∧ st.spareN x p g k ≤ k) ∧ (0 ≤ st.spareN x p g k → st.has (x.set p (x.at p + st.spareN x p g k)) g = true) ∧ ∀ e : Nat, e ≤ k → st.spareN x p g k < (e : Int) → st.has (x.set p (x.at p + (e : Int))) g = false
  | 0 => by
    unfold St.spareN
    by_cases h : st.has (x.set p (x.at p)) g = true
    · rw [if_pos h]
      refine ⟨by omega, fun _ => by rw [Int.add_zero]; exact h, fun e h1 h2 => by omega⟩
    · rw [if_neg h]
      refine ⟨by omega, fun h => by omega, fun e h1 h2 => ?_⟩
      obtain rfl : e = 0 := by omega
      simpa using h
  | k + 1 => by
    unfold St.spareN
    by_cases h : st.has (x.set p (x.at p + ((k + 1 : Nat) : Int))) g = true
    · rw [if_pos h]
      exact ⟨by omega, fun _ => h, fun e h1 h2 => by omega⟩
    · rw [if_neg h]
      obtain ⟨h1, h2, h3⟩ := spare_is (st := st) (x := x) (p := p) (g := g) k
      refine ⟨by omega, h2, fun e g1 g2 => ?_⟩
      by_cases he : e = k + 1
      · subst he; simpa using h
      · exact h3 e (by omega) g2
theorem foul_le {st : St} (hst : st.ok) {i : Nat} : ∀ d, i + d < st.m → (st.G i).foul ≤ (st.G (i + d)).foul
  | 0, _ => Int.le_refl _
  | d + 1, h => by
    have h1 := foul_le hst (i := i) d (by omega)
    have h2 := (hst.up (i + d) (by omega)).1
    show _ ≤ (st.G (i + d + 1)).foul
    omega
/-- it surely has a grade: just where the first that it has is no worse -/
theorem sure_fits {st : St} (hst : st.ok) {x : Bag} {k : Nat} (hk : k < st.m) : (0 ≤ st.sureI x ∧ st.sureI x ≤ (k : Int)) ↔ st.has x (st.G k) = true := by
  obtain ⟨h1, h2, h3, h4⟩ := first_spec (st := st) (x := x) st.m 0
  have e : st.firstFrom x st.m 0 = st.first x := rfl
  rw [e] at h2 h3 h4
  unfold St.sureI
  constructor
  · intro h
    split at h
    · rename_i hf
      obtain ⟨d, hd⟩ : ∃ d, k = st.first x + d := ⟨k - st.first x, by omega⟩
      rw [hd]
      exact has_mono (foul_le hst d (by omega)) (h3 (by omega))
    · omega
  · intro h
    have hf : ¬ k < st.first x := fun hlt => by
      have := h4 k (Nat.zero_le _) hlt
      rw [h] at this
      cases this
    rw [if_pos (by omega)]
    omega
theorem sure_bd {st : St} {x : Bag} : -1 ≤ st.sureI x ∧ st.sureI x < max 1 (st.m : Int) := by
  unfold St.sureI
  split <;> omega
/-- the bag of a lot with one number raised -/
theorem bag_raise {X : Nat → Int} {n k : Nat} (hk : k < n) (h4 : n ≤ 4) (e : Int) : bagOf (fun i => if i = k then X i + e else X i) n = (bagOf X n).set k ((bagOf X n).at k + e) := by
  have h1 : n = 1 ∨ n = 2 ∨ n = 3 ∨ n = 4 := by omega
  have h2 : k = 0 ∨ k = 1 ∨ k = 2 ∨ k = 3 := by omega
  rcases h1 with rfl | rfl | rfl | rfl <;> rcases h2 with rfl | rfl | rfl | rfl <;> first | (exfalso; omega) | (simp [bagOf, bagK, Bag.set, Bag.at]; done)
end Go.Proofs.Ytegmomappbehcaa

set_option linter.unusedSimpArgs false
set_option linter.unusedVariables false
namespace Go.Proofs.Ytegmomappbehcaa

/-- sums of as many numbers in another order -/
def SameSum (n : Nat) (S : Nat → Nat) : Prop := ∀ f g : Nat → Int, (∀ i, i < n → g (S i) = f i) → sumN g n = sumN f n
theorem same_sum {n : Nat} (hn : n ≤ 3) {S : Nat → Nat} (h1 : ∀ i, i < n → S i < n) (h2 : ∀ i j, i < n → j < n → S i = S j → i = j) : SameSum n S := by
  intro f g hg
  have h3 : n = 0 ∨ n = 1 ∨ n = 2 ∨ n = 3 := by omega
  rcases h3 with rfl | rfl | rfl | rfl
  · rfl
  · have a := h1 0 (by omega)
    have e : S 0 = 0 := by omega
    have g0 := hg 0 (by omega)
    rw [e] at g0
    simp [sumN, g0]
  · have a := h1 0 (by omega)
    have b := h1 1 (by omega)
    have c := h2 0 1 (by omega) (by omega)
    have g0 := hg 0 (by omega)
    have g1 := hg 1 (by omega)
    have e : (S 0 = 0 ∧ S 1 = 1) ∨ (S 0 = 1 ∧ S 1 = 0) := by omega
    rcases e with ⟨e0, e1⟩ | ⟨e0, e1⟩ <;> rw [e0] at g0 <;> rw [e1] at g1 <;> simp [sumN, g0, g1] <;> omega
  · have a := h1 0 (by omega)
    have b := h1 1 (by omega)
    have b2 := h1 2 (by omega)
    have c := h2 0 1 (by omega) (by omega)
    have c1 := h2 0 2 (by omega) (by omega)
    have c2 := h2 1 2 (by omega) (by omega)
    have g0 := hg 0 (by omega)
    have g1 := hg 1 (by omega)
    have g2 := hg 2 (by omega)
    have e : (S 0 = 0 ∧ S 1 = 1 ∧ S 2 = 2) ∨ (S 0 = 1 ∧ S 1 = 0 ∧ S 2 = 2) ∨ (S 0 = 0 ∧ S 1 = 2 ∧ S 2 = 1) ∨ (S 0 = 2 ∧ S 1 = 1 ∧ S 2 = 0) ∨ (S 0 = 1 ∧ S 1 = 2 ∧ S 2 = 0) ∨ (S 0 = 2 ∧ S 1 = 0 ∧ S 2 = 1) := by omega
    rcases e with ⟨e0, e1, e2⟩ | ⟨e0, e1, e2⟩ | ⟨e0, e1, e2⟩ | ⟨e0, e1, e2⟩ | ⟨e0, e1, e2⟩ | ⟨e0, e1, e2⟩ <;> rw [e0] at g0 <;> rw [e1] at g1 <;> rw [e2] at g2 <;> simp [sumN, g0, g1, g2] <;> omega
/-- the same store, its pickings numbered otherwise -/
structure Moved (st s2 : St) (S : Nat → Nat) : Prop where
  n : s2.n = st.n
  m : s2.m = st.m
  l : s2.lots = st.lots
  g : ∀ k, k < st.m → s2.G k = st.G k
  lt : ∀ i, i < st.n → S i < st.n
  p : ∀ i, i < st.n → s2.P (S i) = st.P i
  s : SameSum st.n S
  inj : ∀ i j, i < st.n → j < st.n → S i = S j → i = j
  n3 : st.n ≤ 3
/-- the bag that is numbered otherwise -/
def MovedBag (st : St) (S : Nat → Nat) (x y : Bag) : Prop := ∀ i, i < st.n → y.at (S i) = x.at i
theorem Moved.hi {st s2 : St} {S : Nat → Nat} (h : Moved st s2 S) {x y : Bag} (hx : MovedBag st S x y) : s2.hi y = st.hi x ∧ s2.lo y = st.lo x := by
  unfold St.hi St.lo
  rw [h.n]
  exact ⟨h.s _ _ (fun i hi => by rw [h.p i hi, hx i hi]), h.s _ _ (fun i hi => by rw [h.p i hi, hx i hi])⟩
theorem Moved.size {st s2 : St} {S : Nat → Nat} (h : Moved st s2 S) (h4 : st.n ≤ 4) {x y : Bag} (hx : MovedBag st S x y) (hin : x.in_ st.all) (hin2 : y.in_ s2.all) : y.size = x.size := by
  rw [← bag_atsum h4 hin, ← bag_atsum (st := s2) (by rw [h.n]; exact h4) hin2, h.n]
  exact h.s _ _ hx
theorem first_congr {st s2 : St} {x y : Bag} (hm : s2.m = st.m) (h : ∀ k, k < st.m → s2.has y (s2.G k) = st.has x (st.G k)) : s2.first y = st.first x := by
  have key : ∀ r i, i + r ≤ st.m → s2.firstFrom y r i = st.firstFrom x r i := by
    intro r
    induction r with
    | zero => intro i _; rfl
    | succ r ih =>
      intro i hi
      unfold St.firstFrom
      rw [h i (by omega), ih (i + 1) (by omega)]
  unfold St.first
  rw [hm]
  exact key st.m 0 (by omega)
theorem Moved.first {st s2 : St} {S : Nat → Nat} (h : Moved st s2 S) (h4 : st.n ≤ 4) {x y : Bag} (hx : MovedBag st S x y) (hin : x.in_ st.all) (hin2 : y.in_ s2.all) : s2.first y = st.first x :=
  first_congr h.m (fun k hk => by
    unfold St.has
    rw [h.g k hk, h.size h4 hx hin hin2, (h.hi hx).1])
theorem Moved.sure {st s2 : St} {S : Nat → Nat} (h : Moved st s2 S) (h4 : st.n ≤ 4) {x y : Bag} (hx : MovedBag st S x y) (hin : x.in_ st.all) (hin2 : y.in_ s2.all) : s2.sureI y = st.sureI x := by
  unfold St.sureI
  rw [h.first h4 hx hin hin2, h.m]
theorem Moved.brings {st s2 : St} {S : Nat → Nat} (h : Moved st s2 S) (h4 : st.n ≤ 4) {x y : Bag} (hx : MovedBag st S x y) (hin : x.in_ st.all) (hin2 : y.in_ s2.all) : s2.brings y = st.brings x := by
  unfold St.brings St.price
  rw [h.first h4 hx hin hin2, h.m, h.size h4 hx hin hin2]
  split
  · rw [h.g _ ‹_›]
  · rfl
/-- each place is taken -/
theorem perm_on {n : Nat} (hn : n ≤ 3) {S : Nat → Nat} (h1 : ∀ i, i < n → S i < n) (h2 : ∀ i j, i < n → j < n → S i = S j → i = j) : ∀ k, k < n → ∃ i, i < n ∧ S i = k := by
  intro k hk
  apply Classical.byContradiction
  intro hno
  have hno' : ∀ i, i < n → S i ≠ k := fun i hi e => hno ⟨i, hi, e⟩
  have h3 : n = 1 ∨ n = 2 ∨ n = 3 := by omega
  rcases h3 with rfl | rfl | rfl
  · have a := h1 0 (by omega)
    have b := hno' 0 (by omega)
    omega
  · have a := h1 0 (by omega)
    have b := h1 1 (by omega)
    have c := h2 0 1 (by omega) (by omega)
    have d := hno' 0 (by omega)
    have e := hno' 1 (by omega)
    omega
  · have a := h1 0 (by omega)
    have b := h1 1 (by omega)
    have b2 := h1 2 (by omega)
    have c := h2 0 1 (by omega) (by omega)
    have c1 := h2 0 2 (by omega) (by omega)
    have c2 := h2 1 2 (by omega) (by omega)
    have d := hno' 0 (by omega)
    have e := hno' 1 (by omega)
    have f := hno' 2 (by omega)
    omega
theorem in_iff {st : St} (h4 : st.n ≤ 4) {x : Bag} : x.in_ st.all ↔ (∀ k, k < st.n → 0 ≤ x.at k ∧ x.at k ≤ (st.P k).s) ∧ ∀ k, ¬ k < st.n → x.at k = 0 := by
  constructor
  · intro h
    refine ⟨fun k hk => St.in_all h k hk (by omega), fun k hk => ?_⟩
    have h1 := Bag.in_at h k
    by_cases h5 : k < 4
    · rw [st.all_at k h5, if_neg hk] at h1
      omega
    · match k, h5 with
      | k + 4, _ => rfl
      | 0, h => exact absurd (by omega) h
      | 1, h => exact absurd (by omega) h
      | 2, h => exact absurd (by omega) h
      | 3, h => exact absurd (by omega) h
  · intro ⟨h1, h2⟩
    refine Bag.in_of_at (fun p hp => ?_)
    rw [st.all_at p hp]
    split
    · exact h1 p ‹_›
    · rw [h2 p ‹_›]
      exact ⟨Int.le_refl _, Int.le_refl _⟩
/-- a plan of the one is a plan of the other -/
theorem Moved.top_le {st s2 : St} {S T : Nat → Nat} (hst : st.ok) (h2 : s2.ok) (h : Moved st s2 S) (hT : ∀ k, k < st.n → T k < st.n ∧ S (T k) = k) : st.top ≤ s2.top := by
  have h4 := hst.n4
  have hn := h.n
  have hTS : ∀ i, i < st.n → T (S i) = i := fun i hi => h.inj _ _ (hT (S i) (h.lt i hi)).1 hi (hT (S i) (h.lt i hi)).2
  have hP : ∀ k, k < st.n → s2.P k = st.P (T k) := fun k hk => by
    have := h.p (T k) (hT k hk).1
    rw [(hT k hk).2] at this
    exact this
  unfold St.top
  rw [h.l]
  obtain ⟨i1, i2, i3⟩ := St.planN_all hst st.lots.toNat st.all (St.all_self hst)
  rw [← i3]
  have hlen := St.planN_len st st.lots.toNat st.all
  have hin : ∀ j, j < (st.planN st.lots.toNat st.all).length → ((st.planN st.lots.toNat st.all).getD j bagZ).in_ st.all := fun j hj => (St.plan_get hst hj).1
  obtain ⟨B, hB⟩ : ∃ B : Nat → Bag, B = fun j => (st.planN st.lots.toNat st.all).getD j bagZ := ⟨_, rfl⟩
  obtain ⟨m, hm⟩ : ∃ m, m = (st.planN st.lots.toNat st.all).length := ⟨_, rfl⟩
  have hin' : ∀ j, j < m → (B j).in_ st.all := fun j hj => by rw [hB]; rw [hm] at hj; exact hin j hj
  have i2' : ∀ p, sumN (fun j => (B j).at p) m ≤ st.all.at p := fun p => by rw [hB, hm]; exact i2 p
  have goal : sumN (fun j => st.brings (B j)) m ≤ (s2.choose st.lots.toNat s2.all).2 := by
    have hy : ∀ j, j < m → (bagOf (fun k => (B j).at (T k)) st.n).in_ s2.all := fun j hj => by
      refine (in_iff (st := s2) (by omega)).2 ⟨fun k hk => ?_, fun k hk => ?_⟩
      · rw [hn] at hk
        rw [bagOf_at hk (by omega), hP k hk]
        exact St.in_all (hin' j hj) (T k) (hT k hk).1 (by have := (hT k hk).1; omega)
      · rw [hn] at hk
        exact bagOf_off hk
    have h1 := St.plan_le h2 m st.lots.toNat (fun j => bagOf (fun k => (B j).at (T k)) st.n) s2.all (St.all_self h2) (by omega) (fun j hj p _ => (Bag.in_at (hy j hj) p).1) (fun p hp => by
      rw [s2.all_at p hp, hn]
      split
      · rename_i hk
        rw [sumN_congr (f := fun j => (bagOf (fun k => (B j).at (T k)) st.n).at p) (g := fun j => (B j).at (T p)) (fun j _ => bagOf_at hk (by omega)), hP p hk]
        have := i2' (T p)
        rw [st.all_at (T p) (by have := (hT p hk).1; omega), if_pos (hT p hk).1] at this
        exact this
      · rename_i hk
        rw [sumN_zero (fun j hj => bagOf_off hk)]
        exact Int.le_refl _)
    refine Int.le_trans (sumN_le (fun j hj => ?_)) h1
    have := h.brings h4 (x := B j) (y := bagOf (fun k => (B j).at (T k)) st.n) (fun i hi => by rw [bagOf_at (h.lt i hi) (by have := h.lt i hi; omega), hTS i hi]) (hin' j hj) (hy j hj)
    show st.brings (B j) ≤ s2.brings (bagOf (fun k => (B j).at (T k)) st.n)
    omega
  rw [hB, hm] at goal
  exact goal
theorem Moved.top {st s2 : St} {S : Nat → Nat} (hst : st.ok) (h2 : s2.ok) (h : Moved st s2 S) : s2.top = st.top := by
  have hon := perm_on h.n3 h.lt h.inj
  obtain ⟨T, hT⟩ : ∃ T : Nat → Nat, ∀ k, k < st.n → T k < st.n ∧ S (T k) = k := ⟨fun k => if hk : k < st.n then (hon k hk).choose else 0, fun k hk => by dsimp only; rw [dif_pos hk]; exact (hon k hk).choose_spec⟩
  have hn := h.n
  have hTS : ∀ i, i < st.n → T (S i) = i := fun i hi => h.inj _ _ (hT (S i) (h.lt i hi)).1 hi (hT (S i) (h.lt i hi)).2
  have hlt : ∀ i, i < st.n → T i < st.n := fun i hi => (hT i hi).1
  have hinj : ∀ i j, i < st.n → j < st.n → T i = T j → i = j := fun i j hi hj e => by
    have a := (hT i hi).2
    have b := (hT j hj).2
    rw [e] at a
    omega
  have hb : Moved s2 st T := ⟨h.n.symm, h.m.symm, h.l.symm, fun k hk => (h.g k (by rw [← h.m]; exact hk)).symm, fun i hi => by rw [hn] at hi ⊢; exact hlt i hi, fun k hk => by
    rw [hn] at hk
    have := h.p (T k) (hT k hk).1
    rw [(hT k hk).2] at this
    exact this.symm, by rw [hn]; exact same_sum h.n3 hlt hinj, fun i j hi hj => by rw [hn] at hi hj; exact hinj i j hi hj, by rw [hn]; exact h.n3⟩
  have a := h.top_le hst h2 hT
  have b := hb.top_le h2 hst (T := S) (fun k hk => by rw [hn] at hk ⊢; exact ⟨h.lt k hk, hTS k hk⟩)
  omega
/-- grades that are so many times as dear -/
structure Dearer (st s2 : St) (c : Int) : Prop where
  n : s2.n = st.n
  m : s2.m = st.m
  l : s2.lots = st.lots
  p : ∀ k, k < st.n → s2.P k = st.P k
  f : ∀ k, k < st.m → (s2.G k).foul = (st.G k).foul
  g : ∀ k, k < st.m → (s2.G k).price = c * (st.G k).price
theorem Dearer.all {st s2 : St} {c : Int} (h : Dearer st s2 c) : s2.all = st.all := by
  unfold St.all
  rw [h.n]
  congr 1
  · split
    · rw [h.p 0 ‹_›]
    · rfl
  · split
    · rw [h.p 1 ‹_›]
    · rfl
  · split
    · rw [h.p 2 ‹_›]
    · rfl
  · split
    · rw [h.p 3 ‹_›]
    · rfl
theorem Dearer.brings {st s2 : St} {c : Int} (h : Dearer st s2 c) (x : Bag) : s2.brings x = c * st.brings x := by
  have hf : s2.first x = st.first x := first_congr h.m (fun k hk => by
    have e : s2.hi x = st.hi x := by
      unfold St.hi
      rw [h.n]
      exact sumN_congr (fun i hi => by rw [h.p i hi])
    unfold St.has
    rw [h.f k hk, e])
  unfold St.brings St.price
  rw [hf, h.m]
  split
  · rw [h.g _ ‹_›, ← Int.mul_assoc, Int.mul_comm x.size c, Int.mul_assoc]
  · simp
theorem Dearer.choose {st s2 : St} {c : Int} (hc : 0 < c) (h : Dearer st s2 c) : ∀ (k : Nat) (left : Bag), (s2.choose k left).1 = (st.choose k left).1 ∧ (s2.choose k left).2 = c * (st.choose k left).2
  | 0, left => ⟨rfl, by simp [St.choose]⟩
  | k + 1, left => by
    have key : ∀ (l : List Bag) (o o2 : Bag × Int), o2.1 = o.1 → o2.2 = c * o.2 → (l.foldl (s2.chStep (fun x => (s2.choose k x).2) left) o2).1 = (l.foldl (st.chStep (fun x => (st.choose k x).2) left) o).1 ∧ (l.foldl (s2.chStep (fun x => (s2.choose k x).2) left) o2).2 = c * (l.foldl (st.chStep (fun x => (st.choose k x).2) left) o).2 := by
      intro l
      induction l with
      | nil => intro o o2 h1 h2; exact ⟨h1, h2⟩
      | cons b l ih =>
        intro o o2 h1 h2
        simp only [List.foldl_cons]
        have hb := h.brings b
        have hk := (h.choose hc k (left.less b)).2
        have hz : (s2.brings b = 0) ↔ (st.brings b = 0) := by
          rw [hb]
          constructor
          · intro e
            rcases Int.mul_eq_zero.1 e with e | e
            · omega
            · exact e
          · intro e; rw [e, Int.mul_zero]
        have he : s2.brings b + (s2.choose k (left.less b)).2 = c * (st.brings b + (st.choose k (left.less b)).2) := by rw [hb, hk, Int.mul_add]
        have hlt : (o2.2 < s2.brings b + (s2.choose k (left.less b)).2) ↔ (o.2 < st.brings b + (st.choose k (left.less b)).2) := by
          rw [he, h2]
          exact Int.mul_lt_mul_left hc
        refine ih _ _ ?_ ?_
        · unfold St.chStep
          by_cases h3 : st.brings b = 0
          · rw [if_pos h3, if_pos (hz.2 h3)]; exact h1
          · rw [if_neg h3, if_neg (fun e => h3 (hz.1 e))]
            by_cases h4 : o.2 < st.brings b + (st.choose k (left.less b)).2
            · rw [if_pos (decide_eq_true h4), if_pos (decide_eq_true (hlt.2 h4))]
            · rw [if_neg (fun e => h4 (of_decide_eq_true e)), if_neg (fun e => h4 (hlt.1 (of_decide_eq_true e)))]; exact h1
        · unfold St.chStep
          by_cases h3 : st.brings b = 0
          · rw [if_pos h3, if_pos (hz.2 h3)]; exact h2
          · rw [if_neg h3, if_neg (fun e => h3 (hz.1 e))]
            by_cases h4 : o.2 < st.brings b + (st.choose k (left.less b)).2
            · rw [if_pos (decide_eq_true h4), if_pos (decide_eq_true (hlt.2 h4))]; exact he
            · rw [if_neg (fun e => h4 (of_decide_eq_true e)), if_neg (fun e => h4 (hlt.1 (of_decide_eq_true e)))]; exact h2
    exact key (bagsOf left) (bagZ, 0) (bagZ, 0) rfl (by simp)
/-- the grades that are dearer, the first so many of them -/
def dearG (st : St) (b : Int) (j : Nat) : Nat → Gd := fun t => if t < j then ⟨(st.G t).foul, min 100 (b * (st.G t).price)⟩ else st.G t
theorem dear_is {st : St} (hst : st.ok) {b : Int} (hb : b = 1 ∨ b = 2) (h : b = 1 ∨ 2 * (st.G 0).price < 100) : Dearer st { st with G := dearG st b st.m } b ∧ ({ st with G := dearG st b st.m } : St).ok := by
  have hpr : ∀ k, k < st.m → min 100 (b * (st.G k).price) = b * (st.G k).price ∧ 1 ≤ (st.G k).price ∧ (st.G k).price ≤ 100 ∧ b * (st.G k).price ≤ 100 := fun k hk => by
    have h1 := (hst.gd k hk).2
    have h2 := gprice_le hst (i := 0) k (by omega)
    rw [Nat.zero_add] at h2
    rcases hb with rfl | rfl
    · omega
    · omega
  have hG : ∀ k, k < st.m → dearG st b st.m k = ⟨(st.G k).foul, b * (st.G k).price⟩ := fun k hk => by
    unfold dearG
    rw [if_pos hk, (hpr k hk).1]
  refine ⟨⟨rfl, rfl, rfl, fun k _ => rfl, fun k hk => ?_, fun k hk => ?_⟩, ⟨hst.n1, hst.n4, hst.m4, hst.pk, fun k hk => ?_, hst.l0, hst.l3, fun k hk => ?_, hst.sp⟩⟩
  · show (dearG st b st.m k).foul = _
    rw [hG k hk]
  · show (dearG st b st.m k).price = _
    rw [hG k hk]
  · show (dearG st b st.m k).rng
    have hk' : k < st.m := hk
    rw [hG k hk']
    have h1 := hpr k hk'
    have h2 := (hst.gd k hk').1
    refine ⟨h2, ?_⟩
    show 1 ≤ b * (st.G k).price ∧ b * (st.G k).price ≤ 100
    rcases hb with rfl | rfl <;> omega
  · show (dearG st b st.m k).foul < (dearG st b st.m (k + 1)).foul ∧ (dearG st b st.m (k + 1)).price < (dearG st b st.m k).price
    have hk' : k + 1 < st.m := hk
    rw [hG k (by omega), hG (k + 1) hk']
    have h1 := hst.up k hk'
    refine ⟨h1.1, ?_⟩
    show b * (st.G (k + 1)).price < b * (st.G k).price
    rcases hb with rfl | rfl <;> omega
theorem dear_same {st : St} (hst : st.ok) : Dearer st { st with G := st.G } 1 ∧ ({ st with G := st.G } : St).ok :=
  ⟨⟨rfl, rfl, rfl, fun _ _ => rfl, fun _ _ => rfl, fun k _ => (Int.one_mul _).symm⟩, hst⟩
theorem moved_is {st : St} (hst : st.ok) (hn : st.n ≤ 3) {P' : Nat → Pk} {S : Nat → Nat} (h1 : ∀ i, i < st.n → S i < st.n) (h2 : ∀ i j, i < st.n → j < st.n → S i = S j → i = j) (hP : ∀ i, i < st.n → P' (S i) = st.P i) :
    Moved st { st with P := P' } S ∧ ({ st with P := P' } : St).ok := by
  refine ⟨⟨rfl, rfl, rfl, fun _ _ => rfl, h1, hP, same_sum hn h1 h2, h2, hn⟩, ⟨hst.n1, hst.n4, hst.m4, fun k hk => ?_, hst.gd, hst.l0, hst.l3, hst.up, fun k hk => ?_⟩⟩
  · obtain ⟨i, hi, rfl⟩ := perm_on hn h1 h2 k hk
    show (P' (S i)).rng
    rw [hP i hi]
    exact hst.pk i hi
  · obtain ⟨i, hi, rfl⟩ := perm_on hn h1 h2 k hk
    show (P' (S i)).f ≤ (P' (S i)).hi
    rw [hP i hi]
    exact hst.sp i hi
theorem Dearer.top {st s2 : St} {c : Int} (hc : 0 < c) (h : Dearer st s2 c) : s2.top = c * st.top := by
  unfold St.top
  rw [h.l, h.all]
  exact (h.choose hc _ _).2
end Go.Proofs.Ytegmomappbehcaa

set_option linter.unusedSimpArgs false
set_option linter.unusedVariables false
namespace Go.Proofs.Ytegmomappbehcaa
open Go.RowKit Go.Shelf

/-- a made store in its box and a lot, below a bound -/
structure NAt (W w : World) (B : Nat) (st : St) (b : Nat) (pA gA : Option Addr) (pc gc : Nat) (lA : Option Addr) (X : Nat → Int) : Prop where
  s : StAt w b pA st.n pc gA st.m gc st.lots
  hb : b < B
  r : StRow w B st pA pc gA gc
  l : IntRow w B lA st.n X
  b : Below W.heap.size W w
  hW : W.heap.size ≤ B
theorem NAt.over {W w w' : World} {B : Nat} {st : St} {b : Nat} {pA gA : Option Addr} {pc gc : Nat} {lA : Option Addr} {X : Nat → Int} (h : NAt W w B st b pA gA pc gc lA X) (hb : Below B w w') : NAt W w' B st b pA gA pc gc lA X :=
  ⟨h.s.same (hb.block _ h.hb), h.hb, h.r.later hb, h.l.below hb, h.b.trans (hb.mono h.hW), h.hW⟩
/-- the store that is numbered otherwise, on its way -/
structure MvAt (w : World) (lo : Nat) (st : St) (b ob mb tb oc : Nat) (hA : Option Addr) (hc : Nat) (P : Nat → Pk) (X S : Nat → Int) : Prop where
  s : StAt w b (some ⟨ob, 0, none⟩) st.n oc hA st.m hc st.lots
  p : OwnPk w lo (some ⟨ob, 0, none⟩) st.n P
  g : OwnGd w lo hA st.m st.G
  m : OwnInt w lo (some ⟨mb, 0, none⟩) st.n X
  t : OwnInt w lo (some ⟨tb, 0, none⟩) st.n S
  h1 : ob ≠ b ∧ ob ≠ mb ∧ ob ≠ tb
  h2 : mb ≠ b ∧ mb ≠ tb
  h3 : lo ≤ ob ∧ lo ≤ mb
  h4 : ∀ c, hA = some ⟨c, 0, none⟩ → c ≠ ob ∧ c ≠ mb

theorem wp_name_at {Q : Exit → Act → World → Prop} {e : Exit} {a : Act} {w : World} (R : World → Prop) (h : R w) (k : ∀ w', R w' → Q e a w') : Q e a w := k w h
/-- a picking stored whole -/
def put4 (w : World) (b k : Nat) (x : Pk) : World :=
  (((w.setCell ⟨b, k * 4, none⟩ (.int .i64 x.s)).setCell ⟨b, k * 4 + 1, none⟩ (.int .i64 x.w)).setCell ⟨b, k * 4 + 2, none⟩ (.int .i64 x.o)).setCell ⟨b, k * 4 + 3, none⟩ (.int .i64 x.f)
theorem put4_heap {w : World} {b k : Nat} {x : Pk} {i : Nat} (h : i ≠ b) : (put4 w b k x).heap[i]? = w.heap[i]? := by
  unfold put4
  exact (set_heap _ h).trans ((set_heap _ h).trans ((set_heap _ h).trans (set_heap _ h)))
theorem put4_size (w : World) (b k : Nat) (x : Pk) : (put4 w b k x).heap.size = w.heap.size := by
  unfold put4
  simp [World.setCell]
theorem cell_off {w : World} {b j i : Nat} {v : Value} (h : i ≠ j) : (w.setCell ⟨b, j, none⟩ v).cell? ⟨b, i, none⟩ = w.cell? ⟨b, i, none⟩ := World.cell?_setCell_other _ _ _ _ (by intro e; injection e with _ e _; omega)
theorem cell_on {w : World} {b i : Nat} {v u : Value} (h : w.cell? ⟨b, i, none⟩ = some u) : (w.setCell ⟨b, i, none⟩ v).cell? ⟨b, i, none⟩ = some v := World.cell?_setCell_same' _ _ _ (by rw [h]; rfl)
theorem OwnPk.put {w : World} {lo n b : Nat} {P : Nat → Pk} (h : OwnPk w lo (some ⟨b, 0, none⟩) n P) {k : Nat} (hk : k < n) (x : Pk) : OwnPk (put4 w b k x) lo (some ⟨b, 0, none⟩) n (fun t => if t = k then x else P t) := fun i hi => by
  obtain ⟨_, hA, hl, c0, c1, c2, c3, hf⟩ := h i hi
  injection hA with hA
  injection hA with hA
  subst hA
  unfold put4
  refine ⟨b, rfl, hl, ?_, ?_, ?_, ?_, fun j => fro_set_of _ (fro_set_of _ (fro_set_of _ (fro_set_of _ (hf j))))⟩
  all_goals
    dsimp only
    by_cases hik : i = k
    · subst hik
      rw [if_pos rfl]
      first
        | exact (cell_off (by omega)).trans ((cell_off (by omega)).trans ((cell_off (by omega)).trans (cell_on c0)))
        | exact (cell_off (by omega)).trans ((cell_off (by omega)).trans (cell_on ((cell_off (by omega)).trans c1)))
        | exact (cell_off (by omega)).trans (cell_on ((cell_off (by omega)).trans ((cell_off (by omega)).trans c2)))
        | exact cell_on ((cell_off (by omega)).trans ((cell_off (by omega)).trans ((cell_off (by omega)).trans c3)))
    · rw [if_neg hik]
      refine (cell_off (by omega)).trans ((cell_off (by omega)).trans ((cell_off (by omega)).trans ((cell_off (by omega)).trans ?_)))
      first | exact c0 | exact c1 | exact c2 | exact c3
theorem MvAt.put {w w2 w3 : World} {lo : Nat} {st : St} {b ob mb tb oc : Nat} {hA : Option Addr} {hc : Nat} {P : Nat → Pk} {X S : Nat → Int} (h : MvAt w lo st b ob mb tb oc hA hc P X S) {k : Nat} (hk : k < st.n) (p : Pk) (x : Int) (e2 : w2 = put4 w ob k p) (e3 : w3 = w2.setCell ⟨mb, k, none⟩ (.int .i64 x)) :
    MvAt w3 lo st b ob mb tb oc hA hc (fun t => if t = k then p else P t) (fun t => if t = k then x else X t) S ∧ (∀ B, B ≤ lo → Below B w w3) := by
  have h1 := h.h1
  have h2 := h.h2
  have hh2 : ∀ i, i ≠ ob → w2.heap[i]? = w.heap[i]? := fun i a => by rw [e2]; exact put4_heap a
  have hh3 : ∀ i, i ≠ mb → w3.heap[i]? = w2.heap[i]? := fun i a => by rw [e3]; exact set_heap _ a
  have hp2 : OwnPk w2 lo (some ⟨ob, 0, none⟩) st.n (fun t => if t = k then p else P t) := by rw [e2]; exact h.p.put hk p
  have hm2 : OwnInt w2 lo (some ⟨mb, 0, none⟩) st.n X := fun j hj => by
    obtain ⟨c, hA, hl, c0, hf⟩ := h.m j hj
    injection hA with hA
    injection hA with hA
    subst hA
    exact ⟨mb, rfl, hl, cell_same (hh2 _ (by omega)) c0, fun i => fro_same (hh2 _ (by omega)) (hf i)⟩
  have hm3 : OwnInt w3 lo (some ⟨mb, 0, none⟩) st.n (fun t => if t = k then x else X t) := by rw [e3]; exact hm2.put hk x
  have hp3 : OwnPk w3 lo (some ⟨ob, 0, none⟩) st.n (fun t => if t = k then p else P t) := hp2.keepB (fun c e => by
    injection e with e
    injection e with e
    subst e
    exact hh3 _ (by omega))
  have hg3 : OwnGd w3 lo hA st.m st.G := h.g.keepB (fun c e => (hh3 c (h.h4 c e).2).trans (hh2 c (h.h4 c e).1))
  have ht3 : OwnInt w3 lo (some ⟨tb, 0, none⟩) st.n S := fun j hj => by
    obtain ⟨c, hA, hl, c0, hf⟩ := h.t j hj
    injection hA with hA
    injection hA with hA
    subst hA
    exact ⟨tb, rfl, hl, cell_same ((hh3 _ (by omega)).trans (hh2 _ (by omega))) c0, fun i => fro_same ((hh3 _ (by omega)).trans (hh2 _ (by omega))) (hf i)⟩
  refine ⟨⟨h.s.same ((hh3 _ (by omega)).trans (hh2 _ (by omega))), hp3, hg3, hm3, ht3, h1, h2, h.h3, h.h4⟩, fun B hB => ?_⟩
  have h3 := h.h3
  have b2 : Below B w w2 := by
    rw [e2]
    unfold put4
    exact ((((Below.refl _ _).setCell (by dsimp only; omega) _).setCell (by dsimp only; omega) _).setCell (by dsimp only; omega) _).setCell (by dsimp only; omega) _
  rw [e3]
  exact b2.setCell (by dsimp only; omega) _
theorem MvAt.later {w w' : World} {lo : Nat} {st : St} {b ob mb tb oc : Nat} {hA : Option Addr} {hc : Nat} {P : Nat → Pk} {X S : Nat → Int} (h : MvAt w lo st b ob mb tb oc hA hc P X S) (hb : Below w.heap.size w w') : MvAt w' lo st b ob mb tb oc hA hc P X S :=
  ⟨h.s.later hb, h.p.later hb, h.g.later hb, h.m.later hb, h.t.later hb, h.h1, h.h2, h.h3, h.h4⟩

/-- the dearer store on its way -/
structure DrAt (w : World) (lo : Nat) (st : St) (b gb : Nat) (dA : Option Addr) (dc gc : Nat) (G : Nat → Gd) : Prop where
  s : StAt w b dA st.n dc (some ⟨gb, 0, none⟩) st.m gc st.lots
  p : OwnPk w lo dA st.n st.P
  g : OwnGd w lo (some ⟨gb, 0, none⟩) st.m G
  h1 : gb ≠ b ∧ lo ≤ gb
  h2 : ∀ c, dA = some ⟨c, 0, none⟩ → c ≠ gb
  f : w.frozen? ⟨b, 0, none⟩ = false ∧ w.frozen? ⟨b, 1, none⟩ = false ∧ w.frozen? ⟨b, 2, none⟩ = false
theorem DrAt.later {w w' : World} {lo : Nat} {st : St} {b gb : Nat} {dA : Option Addr} {dc gc : Nat} {G : Nat → Gd} (h : DrAt w lo st b gb dA dc gc G) (hb : Below w.heap.size w w') : DrAt w' lo st b gb dA dc gc G :=
  ⟨h.s.later hb, h.p.later hb, h.g.later hb, h.h1, h.h2, fro_same (hb.block _ h.s.lt) h.f.1, fro_same (hb.block _ h.s.lt) h.f.2.1, fro_same (hb.block _ h.s.lt) h.f.2.2⟩
theorem DrAt.put {w : World} {lo : Nat} {st : St} {b gb : Nat} {dA : Option Addr} {dc gc : Nat} {G : Nat → Gd} (h : DrAt w lo st b gb dA dc gc G) {j : Nat} (hj : j < st.m) (x : Int) : DrAt (w.setCell ⟨gb, j * 2 + 1, none⟩ (.int .i64 x)) lo st b gb dA dc gc (fun t => if t = j then ⟨(G t).foul, x⟩ else G t) := by
  have h1 := h.h1
  refine ⟨h.s.same (set_heap _ (by dsimp only; omega)), h.p.keepB (fun c e => set_heap _ (by have := h.h2 c e; dsimp only; omega)), fun k hk => ?_, h1, h.h2, fro_set_of _ h.f.1, fro_set_of _ h.f.2.1, fro_set_of _ h.f.2.2⟩
  obtain ⟨c, hA, hl, c0, c1, hf⟩ := h.g k hk
  injection hA with hA
  injection hA with hA
  subst hA
  refine ⟨gb, rfl, hl, ?_, ?_, fun i => fro_set_of _ (hf i)⟩
  · by_cases e : k = j
    · rw [if_pos e]
      exact (cell_off (by omega)).trans c0
    · rw [if_neg e]
      exact (cell_off (by omega)).trans c0
  · by_cases e : k = j
    · subst e
      rw [if_pos rfl]
      exact cell_on c1
    · rw [if_neg e]
      exact (cell_off (by omega)).trans c1
theorem DrAt.congr {w : World} {lo : Nat} {st : St} {b gb : Nat} {dA : Option Addr} {dc gc : Nat} {G G' : Nat → Gd} (h : DrAt w lo st b gb dA dc gc G) (e : ∀ k, k < st.m → G k = G' k) : DrAt w lo st b gb dA dc gc G' :=
  ⟨h.s, h.p, fun k hk => by
    obtain ⟨c, hA, hl, c0, c1, hf⟩ := h.g k hk
    rw [e k hk] at c0 c1
    exact ⟨c, hA, hl, c0, c1, hf⟩, h.h1, h.h2, h.f⟩

theorem named_ok {st : St} (hst : st.ok) (hn : st.n ≤ 3) {P' : Nat → Pk} {X X' S : Nat → Int} (hp : PermN st.n S) (hmv : ∀ t, t < st.n → P' (S t).toNat = st.P t ∧ X' (S t).toNat = X t) (hx : ∀ i, i < st.n → 0 ≤ X i ∧ X i ≤ (st.P i).s) :
    ({ st with P := P' } : St).ok ∧ ({ st with P := P' } : St).spanR st.n X' = (st.lo (bagOf X st.n), st.hi (bagOf X st.n), 0) ∧ ({ st with P := P' } : St).sureR st.n X' = (st.sureI (bagOf X st.n), 0) ∧ ({ st with P := P' } : St).top = st.top := by
  have h4 := hst.n4
  have h1 : ∀ i, i < st.n → (S i).toNat < st.n := fun i hi => by have := hp.1 i hi; omega
  have h2 : ∀ i j, i < st.n → j < st.n → (S i).toNat = (S j).toNat → i = j := fun i j hi hj e => by
    have a := hp.1 i hi
    have b := hp.1 j hj
    exact hp.2 i j hi hj (by omega)
  obtain ⟨hM, ho⟩ := moved_is hst hn (P' := P') (S := fun t => (S t).toNat) h1 h2 (fun i hi => (hmv i hi).1)
  have hx' : ∀ k, k < st.n → 0 ≤ X' k ∧ X' k ≤ (P' k).s := fun k hk => by
    obtain ⟨i, hi, rfl⟩ := perm_on hn h1 h2 k hk
    rw [(hmv i hi).1, (hmv i hi).2]
    exact hx i hi
  have hask : ({ st with P := P' } : St).askErr st.n X' = 0 := lot_ask ho (X := X') hx'
  have hb : MovedBag st (fun t => (S t).toNat) (bagOf X st.n) (bagOf X' st.n) := fun i hi => by
    dsimp only
    rw [bagOf_at (h1 i hi) (by have := h1 i hi; omega), bagOf_at hi (by omega)]
    exact (hmv i hi).2
  have hin := tried_in hst (fun i hi => (hx i hi).1) (fun i hi => (hx i hi).2)
  have hin2 := tried_in ho (X := X') (fun i hi => (hx' i hi).1) (fun i hi => (hx' i hi).2)
  have hh := hM.hi hb
  have hs := hM.sure h4 hb hin hin2
  refine ⟨ho, ?_, ?_, hM.top hst ho⟩
  · unfold St.spanR
    rw [if_neg (fun h => h hask)]
    show (({ st with P := P' } : St).lo (bagOf X' st.n), ({ st with P := P' } : St).hi (bagOf X' st.n), (0 : Int)) = _
    rw [hh.1, hh.2]
  · unfold St.sureR
    rw [if_neg (fun h => h hask)]
    show (({ st with P := P' } : St).sureI (bagOf X' st.n), (0 : Int)) = _
    rw [hs]

/-- all that stands in boxes behind the loops -/
structure NmAll (W w : World) (B lo : Nat) (st : St) (b8 b12 b16 : Nat) (pA gA : Option Addr) (pc gc : Nat) (lA : Option Addr) (X : Nat → Int) (ob mb tb oc : Nat) (hA : Option Addr) (hc : Nat) (P : Nat → Pk) (X' S : Nat → Int) (eA eg : Option Addr) (ec egc : Nat) (G2 : Nat → Gd) : Prop where
  a : NAt W w B st b8 pA gA pc gc lA X
  m : MvAt w lo st b12 ob mb tb oc hA hc P X' S
  s : StAt w b16 eA st.n ec eg st.m egc st.lots
  r : StRow w w.heap.size { st with G := G2 } eA ec eg egc
theorem NmAll.later {W w w' : World} {B lo : Nat} {st : St} {b8 b12 b16 : Nat} {pA gA : Option Addr} {pc gc : Nat} {lA : Option Addr} {X : Nat → Int} {ob mb tb oc : Nat} {hA : Option Addr} {hc : Nat} {P : Nat → Pk} {X' S : Nat → Int} {eA eg : Option Addr} {ec egc : Nat} {G2 : Nat → Gd} (h : NmAll W w B lo st b8 b12 b16 pA gA pc gc lA X ob mb tb oc hA hc P X' S eA eg ec egc G2) (hb : Below w.heap.size w w') : NmAll W w' B lo st b8 b12 b16 pA gA pc gc lA X ob mb tb oc hA hc P X' S eA eg ec egc G2 :=
  ⟨h.a.over (hb.mono h.a.r.lt), h.m.later hb, h.s.later hb, h.r.later2 hb⟩

set_option maxRecDepth 100000 in
set_option maxHeartbeats 8000000 in
theorem named_rest (W : World) (B lo : Nat) (st : St) (b8 b12 b16 : Nat) (pA gA : Option Addr) (pc gc : Nat) (lA : Option Addr) (lc : Nat) (X : Nat → Int) (ob mb tb oc mc : Nat) (hA : Option Addr) (hc : Nat) (P' : Nat → Pk) (X' S : Nat → Int) (eA eg : Option Addr) (ec egc : Nat) (G2 : Nat → Gd) (c : Int) (HST : Hid st.ok) (hn : 1 ≤ st.n ∧ st.n ≤ 4) (hm : 1 ≤ st.m ∧ st.m ≤ 3) (hoc : st.n ≤ oc) (hhc : st.m ≤ hc) (hmc : st.n ≤ mc) (hc12 : c = 1 ∨ c = 2) (HA : Hid (st.askErr st.n X = 0))
    (HNO : Hid (({ st with P := P' } : St).ok ∧ ({ st with P := P' } : St).spanR st.n X' = (st.lo (bagOf X st.n), st.hi (bagOf X st.n), 0) ∧ ({ st with P := P' } : St).sureR st.n X' = (st.sureI (bagOf X st.n), 0) ∧ ({ st with P := P' } : St).top = st.top))
    (HDR : Hid (Dearer st { st with G := G2 } c ∧ ({ st with G := G2 } : St).ok)) {u0 u1 u2 u3 u4 u5 u6 u7 u9 u14 u15 u17 u18 u19 u20 u21 u22 u23 u24 u25 u26 u27 u28 u29 u30 u31 u32 u33 u34 u35 u36 u37 u38 u39 u40 u41 u42 u43 u44 u45 u46 u47 u48 u49 u50 u51 u52 u53 u54 u55 u56 u57 u58 u59 u60 u61 u62 u63 u64 u65 u66 u67 u68 u69 u70 u71 u72 u73 u74 u75 u76 u77 u78 u79 u80 u81 u82 u83 u84 u85 u86 u87 u88 u89 u90 u91 u92 u93 u94 u95 u96 u97 u98 u99 u100 u101 u102 u103 u104 u105 u106 u107 u108 u109 u110 u111 u112 u113 u114 u115 u116 u117 u118 u119 u120 u121 u122 u123 u124 u125 u126 u127 u128 u129 u130 u131 u132 u133 u134 u135 u136 u137 u138 u139 u140 u141 u142 u143 u144 u145 u146 u147 u148 u149 u150 u151 u152 u153 u154 u155 u156 u157 u158 u159 u160 u161 u162 u163 u164 u165 u166 u167 u168 u169 u170 u171 u172 u173 u174 u175 u176 u177 u178 u179 u180 u181 u182 u183 u184 u185 u186 u187 u188 u189 u190 u191 u192 u193 u194 u195 u196 u197 u198 u199 u200 u201 u202 u203 u204 u205 u206 u207 u208 : Value} (w : World) (H0 : Hid (NmAll W w B lo st b8 b12 b16 pA gA pc gc lA X ob mb tb oc hA hc P' X' S eA eg ec egc G2))
    (K : Act → World → Prop) (hK : ∀ a w, Code.wp Try.prog (tlRg (fromRg 19 (Try.f8.body.getD .skip))) (bodyPost Try.prog Try.f8 fun e W' => e = .returned (.bool true) ∧ Below W.heap.size W W') a w → K a w) :
    Code.wp Try.prog (hdRg (fromRg 19 (Try.f8.body.getD .skip))) (Exit.then K (bodyPost Try.prog Try.f8 fun e W' => e = .returned (.bool true) ∧ Below W.heap.size W W')) ⟨(List.toArray (u0 :: u1 :: u2 :: u3 :: u4 :: u5 :: u6 :: u7 :: (.pointer (some ⟨b8, 0, none⟩)) :: u9 :: (.slice lA st.n lc) :: (.int .i64 c) :: (.pointer (some ⟨b12, 0, none⟩)) :: (.slice (some ⟨mb, 0, none⟩) st.n mc) :: u14 :: u15 :: (.pointer (some ⟨b16, 0, none⟩)) :: u17 :: u18 :: u19 :: u20 :: u21 :: u22 :: u23 :: u24 :: u25 :: u26 :: u27 :: u28 :: u29 :: u30 :: u31 :: u32 :: u33 :: u34 :: u35 :: u36 :: u37 :: u38 :: u39 :: u40 :: u41 :: u42 :: u43 :: u44 :: u45 :: u46 :: u47 :: u48 :: u49 :: u50 :: u51 :: u52 :: u53 :: u54 :: u55 :: u56 :: u57 :: u58 :: u59 :: u60 :: u61 :: u62 :: u63 :: u64 :: u65 :: u66 :: u67 :: u68 :: u69 :: u70 :: u71 :: u72 :: u73 :: u74 :: u75 :: u76 :: u77 :: u78 :: u79 :: u80 :: u81 :: u82 :: u83 :: u84 :: u85 :: u86 :: u87 :: u88 :: u89 :: u90 :: u91 :: u92 :: u93 :: u94 :: u95 :: u96 :: u97 :: u98 :: u99 :: u100 :: u101 :: u102 :: u103 :: u104 :: u105 :: u106 :: u107 :: u108 :: u109 :: u110 :: u111 :: u112 :: u113 :: u114 :: u115 :: u116 :: u117 :: u118 :: u119 :: u120 :: u121 :: u122 :: u123 :: u124 :: u125 :: u126 :: u127 :: u128 :: u129 :: u130 :: u131 :: u132 :: u133 :: u134 :: u135 :: u136 :: u137 :: u138 :: u139 :: u140 :: u141 :: u142 :: u143 :: u144 :: u145 :: u146 :: u147 :: u148 :: u149 :: u150 :: u151 :: u152 :: u153 :: u154 :: u155 :: u156 :: u157 :: u158 :: u159 :: u160 :: u161 :: u162 :: u163 :: u164 :: u165 :: u166 :: u167 :: u168 :: u169 :: u170 :: u171 :: u172 :: u173 :: u174 :: u175 :: u176 :: u177 :: u178 :: u179 :: u180 :: u181 :: u182 :: u183 :: u184 :: u185 :: u186 :: u187 :: u188 :: u189 :: u190 :: u191 :: u192 :: u193 :: u194 :: u195 :: u196 :: u197 :: u198 :: u199 :: u200 :: u201 :: u202 :: u203 :: u204 :: u205 :: u206 :: u207 :: u208 :: [])), []⟩ w := by
  (conv => arg 2; whnf); (obtain ⟨y, hy⟩ : ∃ y, tlRg (fromRg 19 (Try.f8.body.getD .skip)) = y := ⟨_, rfl⟩); rw [hy] at hK; (conv at hy => lhs; whnf); subst hy
  obtain ⟨s0, s1, s2⟩ := H0.out.a.s
  go_wp2_with fail
  refine (Span_any st _ pA gA pc gc lA st.n lc X _ H0.out.a.r (H0.out.a.l.mono H0.out.a.r.lt) (by omega)).mono ?_
  rintro e w1 ⟨rfl, hb⟩
  have esp : st.spanR st.n X = (st.lo (bagOf X st.n), st.hi (bagOf X st.n), 0) := by unfold St.spanR; rw [if_neg (by simp [HA.out])]
  rw [esp]
  have H1 := Lib.hid (H0.out.later hb)
  obtain ⟨clo, hclo⟩ : ∃ x, st.lo (bagOf X st.n) = x := ⟨_, rfl⟩
  obtain ⟨chi, hchi⟩ : ∃ x, st.hi (bagOf X st.n) = x := ⟨_, rfl⟩
  rw [hclo, hchi] at HNO
  rw [hclo, hchi]
  clear hb esp hclo hchi s0 s1 s2 H0
  go_upto_region 20 with fail
  refine wp_name (fun W1 => N2At W1 w1.heap.size clo chi ∧ Below w1.heap.size w1 W1 ∧ w1.heap.size + 1 ≤ W1.heap.size) ⟨(by (repeat' refine And.intro ?_ ?_) <;> (repeat (first | (with_reducible assumption) | (simp; done) | (with_reducible refine cell_drew_of ?_) | (with_reducible refine cell_drewN_of ?_) | (with_reducible refine cell_below_of (by with_reducible assumption) ?_) | ((with_reducible refine cell_new_of ?_ ?_) <;> (first | (with_reducible rfl) | (simp; done))) | ((with_reducible refine fro_new_of ?_) <;> (first | (with_reducible rfl) | (simp; done))) | (with_reducible refine cell_alloc_of _ ?_) | (with_reducible refine cell_set_of _ (by (first | exact Nat.le_refl _ | omega | (simp; done) | (simp; omega))) ?_) | (with_reducible refine fro_drew_of ?_) | (with_reducible refine fro_drewN_of ?_) | (with_reducible refine fro_below_of (by with_reducible assumption) (by (first | exact Nat.le_refl _ | omega | (simp; done) | (simp; omega))) ?_) | (with_reducible refine fro_alloc_of _ (by (first | exact Nat.le_refl _ | omega | (simp; done) | (simp; omega))) ?_) | (with_reducible refine fro_set_of _ ?_)))), (by repeat (first | (with_reducible exact Below.refl _ _) | (with_reducible refine Below.drew ?_) | (with_reducible refine below_drewN ?_ _) | ((with_reducible refine below_alloc ?_ ?_ _); · (first | exact Nat.le_refl _ | omega | (simp; done) | (simp; omega) | (simp at *; omega))) | ((with_reducible refine below_set ?_ ?_ _); · (first | exact Nat.le_refl _ | omega | (simp; done) | (simp; omega) | (simp at *; omega))) | ((with_reducible refine below_via (by with_reducible assumption) ?_ ?_); · (first | exact Nat.le_refl _ | omega | (simp; done) | (simp; omega) | (simp at *; omega))))), by simp⟩ ?_
  rintro w2 ⟨hnx, hba, hs2'⟩
  have H2 := Lib.hid (H1.out.later hba)
  have HN2 := Lib.hid hnx
  clear hnx hba H1
  obtain ⟨q0, q1, q2⟩ := H2.out.m.s
  go_wp2_with fail
  refine (Span_any { st with P := P' } _ (some ⟨ob, 0, none⟩) hA oc hc (some ⟨mb, 0, none⟩) st.n mc X' _ (StRow.of_own (st := { st with P := P' }) H2.out.m.p H2.out.m.g (by show st.n ≤ 1000; omega) (by show st.m ≤ 1000; omega) hoc hhc) H2.out.m.m.row (by omega)).mono ?_
  rintro e w3 ⟨rfl, hb⟩
  rw [HNO.out.2.1]
  have H3 := Lib.hid (H2.out.later hb)
  have HN3 := Lib.hid (HN2.out.later hb)
  clear hb q0 q1 q2 H2 HN2
  go_upto_region 21 with fail
  refine wp_name (fun W1 => N2At W1 w3.heap.size clo chi ∧ Below w3.heap.size w3 W1 ∧ w3.heap.size + 1 ≤ W1.heap.size) ⟨(by (repeat' refine And.intro ?_ ?_) <;> (repeat (first | (with_reducible assumption) | (simp; done) | (with_reducible refine cell_drew_of ?_) | (with_reducible refine cell_drewN_of ?_) | (with_reducible refine cell_below_of (by with_reducible assumption) ?_) | ((with_reducible refine cell_new_of ?_ ?_) <;> (first | (with_reducible rfl) | (simp; done))) | ((with_reducible refine fro_new_of ?_) <;> (first | (with_reducible rfl) | (simp; done))) | (with_reducible refine cell_alloc_of _ ?_) | (with_reducible refine cell_set_of _ (by (first | exact Nat.le_refl _ | omega | (simp; done) | (simp; omega))) ?_) | (with_reducible refine fro_drew_of ?_) | (with_reducible refine fro_drewN_of ?_) | (with_reducible refine fro_below_of (by with_reducible assumption) (by (first | exact Nat.le_refl _ | omega | (simp; done) | (simp; omega))) ?_) | (with_reducible refine fro_alloc_of _ (by (first | exact Nat.le_refl _ | omega | (simp; done) | (simp; omega))) ?_) | (with_reducible refine fro_set_of _ ?_)))), (by repeat (first | (with_reducible exact Below.refl _ _) | (with_reducible refine Below.drew ?_) | (with_reducible refine below_drewN ?_ _) | ((with_reducible refine below_alloc ?_ ?_ _); · (first | exact Nat.le_refl _ | omega | (simp; done) | (simp; omega) | (simp at *; omega))) | ((with_reducible refine below_set ?_ ?_ _); · (first | exact Nat.le_refl _ | omega | (simp; done) | (simp; omega) | (simp at *; omega))) | ((with_reducible refine below_via (by with_reducible assumption) ?_ ?_); · (first | exact Nat.le_refl _ | omega | (simp; done) | (simp; omega) | (simp at *; omega))))), by simp⟩ ?_
  rintro w4 ⟨hnx, hba, hs4'⟩
  have H4 := Lib.hid (H3.out.later hba)
  have HN4 := Lib.hid (HN3.out.later hba)
  have HO4 := Lib.hid hnx
  clear hnx hba H3 HN3
  obtain ⟨s0, s1, s2⟩ := H4.out.a.s
  go_wp2_with fail
  refine (Sure_any st _ pA gA pc gc lA st.n lc X _ H4.out.a.r (H4.out.a.l.mono H4.out.a.r.lt) (by omega)).mono ?_
  rintro e w5 ⟨rfl, hb⟩
  have esr : st.sureR st.n X = (st.sureI (bagOf X st.n), 0) := by unfold St.sureR; rw [if_neg (by simp [HA.out])]
  rw [esr]
  have H5 := Lib.hid (H4.out.later hb)
  have HN5 := Lib.hid (HN4.out.later hb)
  have HO5 := Lib.hid (HO4.out.later hb)
  obtain ⟨sv, hsv⟩ : ∃ sv, st.sureI (bagOf X st.n) = sv := ⟨_, rfl⟩
  rw [hsv] at HNO ⊢
  clear hb esr hsv s0 s1 s2 H4 HN4 HO4
  obtain ⟨q0, q1, q2⟩ := H5.out.m.s
  go_wp2_with fail
  refine (Sure_any { st with P := P' } _ (some ⟨ob, 0, none⟩) hA oc hc (some ⟨mb, 0, none⟩) st.n mc X' _ (StRow.of_own (st := { st with P := P' }) H5.out.m.p H5.out.m.g (by show st.n ≤ 1000; omega) (by show st.m ≤ 1000; omega) hoc hhc) H5.out.m.m.row (by omega)).mono ?_
  rintro e w6 ⟨rfl, hb⟩
  rw [HNO.out.2.2.1]
  have H6 := Lib.hid (H5.out.later hb)
  have HN6 := Lib.hid (HN5.out.later hb)
  have HO6 := Lib.hid (HO5.out.later hb)
  clear hb q0 q1 q2 H5 HN5 HO5
  obtain ⟨s0, s1, s2⟩ := H6.out.a.s
  go_wp2_with fail
  refine (Best_any st _ pA gA pc gc _ H6.out.a.r).mono ?_
  rintro e w7 ⟨hb, hp⟩
  rcases hp with ⟨_, bA, bc, rfl, _, _⟩ | ⟨h0, _⟩
  · have H7 := Lib.hid (H6.out.later hb)
    have HN7 := Lib.hid (HN6.out.later hb)
    have HO7 := Lib.hid (HO6.out.later hb)
    have htop := St.choose_bd HST.out st.lots.toNat st.all (St.all_self HST.out)
    have hl3 := HST.out.l3
    have hl0 := HST.out.l0
    obtain ⟨z, hz⟩ : ∃ z, (st.choose st.lots.toNat st.all).2 = z := ⟨_, rfl⟩
    have hzt : st.top = z := hz
    have htd := Dearer.top (by rcases hc12 with h | h <;> omega) HDR.out.1
    rw [hzt] at HNO htd
    rw [hz] at htop ⊢
    have HTD := Lib.hid htd
    have hzb : 0 ≤ z ∧ z ≤ 7200 := by omega
    clear hb hz hzt htd htop s0 s1 s2 H6 HN6 HO6
    generalize (st.planN st.lots.toNat st.all).length = len
    obtain ⟨q0, q1, q2⟩ := H7.out.m.s
    go_wp2_with fail
    refine (Best_any { st with P := P' } _ (some ⟨ob, 0, none⟩) hA oc hc _ (StRow.of_own (st := { st with P := P' }) H7.out.m.p H7.out.m.g (by show st.n ≤ 1000; omega) (by show st.m ≤ 1000; omega) hoc hhc)).mono ?_
    rintro e w8 ⟨hb, hp⟩
    rcases hp with ⟨_, dA, dc, rfl, _, _⟩ | ⟨h0, _⟩
    · have H8 := Lib.hid (H7.out.later hb)
      have HN8 := Lib.hid (HN7.out.later hb)
      have HO8 := Lib.hid (HO7.out.later hb)
      have ez2 : (({ st with P := P' } : St).choose ({ st with P := P' } : St).lots.toNat ({ st with P := P' } : St).all).2 = z := HNO.out.2.2.2
      rw [ez2]
      clear hb ez2 q0 q1 q2 H7 HN7 HO7
      generalize (({ st with P := P' } : St).planN ({ st with P := P' } : St).lots.toNat ({ st with P := P' } : St).all).length = len2
      obtain ⟨q0, q1, q2⟩ := H8.out.s
      go_wp2_with fail
      refine (Best_any { st with G := G2 } _ eA eg ec egc _ H8.out.r).mono ?_
      rintro e w9 ⟨hb, hp⟩
      rcases hp with ⟨_, fA, fc, rfl, _, _⟩ | ⟨h0, _⟩
      · have H9 := Lib.hid (H8.out.later hb)
        have HN9 := Lib.hid (HN8.out.later hb)
        have HO9 := Lib.hid (HO8.out.later hb)
        have ez3 : (({ st with G := G2 } : St).choose ({ st with G := G2 } : St).lots.toNat ({ st with G := G2 } : St).all).2 = c * z := HTD.out
        rw [ez3]
        clear hb ez3 q0 q1 q2 H8 HN8 HO8
        generalize (({ st with G := G2 } : St).planN ({ st with G := G2 } : St).lots.toNat ({ st with G := G2 } : St).all).length = len3
        have ecz : IntKind.i64.wrap (c * z) = c * z := IntWalk.i64_in _ (by rcases hc12 with h | h <;> rw [h] <;> omega)
        obtain ⟨⟨n0, n1⟩, _⟩ := HN9.out
        obtain ⟨⟨o0, o1⟩, _⟩ := HO9.out
        have k1 : (clo == clo) = true := by simp
        have k2 : (chi == chi) = true := by simp
        have k3 : (sv == sv) = true := by simp
        have k4 : (z == z) = true := by simp
        have k5 : (c * z == c * z) = true := by simp
        go_wp2_with fail
        refine (awake_any _).mono ?_
        rintro e wc ⟨rfl, hb⟩
        have Hc := Lib.hid (H9.out.a.b.trans (hb.mono H9.out.a.b.size))
        clear hb
        go_wp2_with fail
        go_ret
        exact ⟨rfl, Hc.out⟩
      · exact absurd (St.check_ok.2 HDR.out.2) h0
    · exact absurd (St.check_ok.2 HNO.out.1) h0
  · exact absurd (St.check_ok.2 HST.out) h0

set_option maxRecDepth 100000 in
set_option maxHeartbeats 8000000 in
theorem named_law (nA : Option Addr) (nn nc : Nat) (tA : Option Addr) (tn tc : Nat) (more : Int) (W : World) (hby : ByIn W W.heap.size nA nn) (hln : nn ≤ 9223372036854775807) (hby2 : ByIn W W.heap.size tA tn) (hln2 : tn ≤ 9223372036854775807) :
    Calls Try.prog 8 #[.slice nA nn nc, .slice tA tn tc, .int .i64 more] W fun e W' => e = .returned (.bool true) ∧ Below W.heap.size W W' := by
  have HBY := Lib.hid hby
  have HBY2 := Lib.hid hby2
  clear hby hby2
  go_enter Try.func8, Try.ntmps8
  go_wp2_with fail
  refine (fill_any W.heap.size nA nn nc _ (Nat.le_refl _) HBY.out).mono ?_
  rintro e w1 ⟨cb, rfl, hcb, hb1, hch⟩
  have HB1 := Lib.hid hb1
  have HC1 := Lib.hid hch
  have hs1 := hb1.size
  have hcl : cb < w1.heap.size := by
    obtain ⟨u, z, _, h⟩ := hch
    exact h.lt
  clear hb1 hch
  go_wp2_with fail
  refine (made_any 3 4 (by omega) (by omega) W.heap.size cb nA nn nc hln _ hs1 hcl HC1.out).mono ?_
  rintro e w2 ⟨st, R, pA, gA, rA, pc, gc, rc, rfl, hn, hm, hl, hgood, ⟨gf, gp, hgd⟩, hop, hog, hor, hpc, hgc, hrc, hg2, hch2⟩
  have hn4 : st.n ≤ 4 := by omega
  have HST := Lib.hid (made_ok ⟨hn.1, hn4⟩ hm hl (by omega) hgood hgd)
  have HRR := Lib.hid (made_real hgood)
  have HC2 := Lib.hid hch2
  have HB2 := Lib.hid (HB1.out.trans (gb_below hg2 hs1 hcb))
  have hs2 := hg2.size
  have HOP := Lib.hid hop
  have HOG := Lib.hid hog
  have HOR := Lib.hid hor
  have hgp := (hgd.1 0 (by omega)).2
  have hg0 : 40 ≤ (st.G 0).price ∧ (st.G 0).price ≤ 60 := by omega
  have hn3 : st.n ≤ 3 := by omega
  clear hgp
  clear hgood hgd hop hog hor hch2 hg2
  go_upto_region 3 with fail
  refine wp_name (fun W3 => StAt W3 w2.heap.size pA st.n pc gA st.m gc st.lots ∧ Below w2.heap.size w2 W3 ∧ w2.heap.size + 1 ≤ W3.heap.size) ⟨(by (repeat' refine And.intro ?_ ?_) <;> (repeat (first | (with_reducible assumption) | (simp; done) | (with_reducible refine cell_drew_of ?_) | (with_reducible refine cell_drewN_of ?_) | (with_reducible refine cell_below_of (by with_reducible assumption) ?_) | ((with_reducible refine cell_new_of ?_ ?_) <;> (first | (with_reducible rfl) | (simp; done))) | ((with_reducible refine fro_new_of ?_) <;> (first | (with_reducible rfl) | (simp; done))) | (with_reducible refine cell_alloc_of _ ?_) | (with_reducible refine cell_set_of _ (by (first | exact Nat.le_refl _ | omega | (simp; done) | (simp; omega))) ?_) | (with_reducible refine fro_drew_of ?_) | (with_reducible refine fro_drewN_of ?_) | (with_reducible refine fro_below_of (by with_reducible assumption) (by (first | exact Nat.le_refl _ | omega | (simp; done) | (simp; omega))) ?_) | (with_reducible refine fro_alloc_of _ (by (first | exact Nat.le_refl _ | omega | (simp; done) | (simp; omega))) ?_) | (with_reducible refine fro_set_of _ ?_)))), (by repeat (first | (with_reducible exact Below.refl _ _) | (with_reducible refine Below.drew ?_) | (with_reducible refine below_drewN ?_ _) | ((with_reducible refine below_alloc ?_ ?_ _); · (first | exact Nat.le_refl _ | omega | (simp; done) | (simp; omega) | (simp at *; omega))) | ((with_reducible refine below_set ?_ ?_ _); · (first | exact Nat.le_refl _ | omega | (simp; done) | (simp; omega) | (simp at *; omega))) | ((with_reducible refine below_via (by with_reducible assumption) ?_ ?_); · (first | exact Nat.le_refl _ | omega | (simp; done) | (simp; omega) | (simp at *; omega))))), by simp⟩ ?_
  rintro W3 ⟨hsa, hba, hs3⟩
  have H3 : Hid (OwnEv W3 w1.heap.size cb st w2.heap.size pA gA rA pc gc R) := Lib.hid ⟨hsa, HOP.out.later hba, HOG.out.later hba, HOR.out.later hba, hcl, by omega⟩
  have HC3 := Lib.hid (HC2.out.later hba)
  have HB3 := Lib.hid (HB2.out.trans (hba.mono (by omega)))
  clear hsa hba HOP HOG HOR HC2 HB2 HB1 HC1
  obtain ⟨s0, s1, s2⟩ := H3.out.s
  go_wp2_with fail
  refine (madelot_any st W.heap.size _ cb nA nn nc hln pA gA pc gc _ (H3.out.row (by omega) (by omega) hpc hgc) (H3.out.ne hn.1) hn4 (fun i hi => (HST.out.pk i hi).1) HB3.out.size (by omega) HC3.out).mono ?_
  rintro e w5 ⟨lA, lc, X, rfl, hol, hlc, hx, hg, hch⟩
  have HX := Lib.hid hx
  have HA := Lib.hid (lot_ask HST.out hx)
  have H5' := H3.out.keep hg
  have H5 : Hid (RAt W w5 st w2.heap.size pA gA pc gc lA X rA R) := Lib.hid ⟨H5'.s, H5'.row (by omega) (by omega) hpc hgc, hol.row, H5'.r.row, HB3.out.trans (gb_below hg HB3.out.size hcb)⟩
  have HN5 : Hid (NAt W w5 w5.heap.size st w2.heap.size pA gA pc gc lA X) := Lib.hid ⟨H5.out.s, H5.out.s.lt, H5.out.r, H5.out.l, H5.out.b, H5.out.b.size⟩
  clear H5' hol hx hg hch s0 s1 s2 H3 HC3 HB3
  go_wp2_with fail
  refine (wrap_any more 2 (by omega) _).mono ?_
  rintro e w ⟨bx, rfl, hx0, hx1, rfl⟩
  obtain ⟨by1, hby1⟩ : ∃ b : Int, 1 + bx = b := ⟨_, rfl⟩
  have hbd : 1 ≤ by1 ∧ by1 ≤ 2 := by omega
  have eb : IntKind.i64.wrap (1 + bx) = by1 := by rw [hby1]; exact IntWalk.i64_in _ (by omega)
  clear hby1
  obtain ⟨s0, s1, s2⟩ := H5.out.s
  go_wp2_with fail
  refine (own_any st _ pA gA pc gc _ H5.out.r).mono ?_
  rintro e w6 ⟨hb, oA, oc, hA, hc, rfl, hop, hog, hoc, hhc, hdis⟩
  have H6 := Lib.hid (H5.out.later hb)
  have hs6 := hb.size
  have HOP := Lib.hid hop
  have HOG := Lib.hid hog
  obtain ⟨ob, hoA, hob, hoc0, _⟩ := hop 0 hn.1
  subst hoA
  have hob1 := World.block_lt_of_cell? w6 _ hoc0
  dsimp only at hob1
  have HGB : Hid (∀ b, hA = some ⟨b, 0, none⟩ → w5.heap.size ≤ b ∧ b < w6.heap.size ∧ b ≠ ob) := Lib.hid (fun b e => by
    obtain ⟨b2, h1, h2, h3, _⟩ := hog 0 hm.1
    rw [e] at h1
    injection h1 with h1
    injection h1 with h1
    subst h1
    have := World.block_lt_of_cell? w6 _ h3
    dsimp only at this
    exact ⟨h2, this, hdis ob b rfl e hn.1 hm.1⟩)
  have HB6 := Lib.hid hb
  clear hoc0
  clear hb hop hog hdis s0 s1 s2 H5 eb hx0 hx1
  go_wp2_with fail
  refine (copy_int lA st.n lc X _ H6.out.l (by omega)).mono ?_
  rintro e w7 ⟨hb, mA, mc, rfl, hom, hmc⟩
  have H7 := Lib.hid (H6.out.later hb)
  have HOP7 := Lib.hid (HOP.out.later hb)
  have HOG7 := Lib.hid (HOG.out.later hb)
  have hs7 := hb.size
  have HOM := Lib.hid hom
  have HB7 := Lib.hid hb
  obtain ⟨mb, hmA, hmb, hm0, _⟩ := hom 0 hn.1
  subst hmA
  have hmb1 := World.block_lt_of_cell? w7 _ hm0
  dsimp only at hmb1
  clear hm0
  clear hb hom H6 HOP HOG
  go_upto_region 6 with fail
  refine wp_name (fun W8 => StAt W8 w7.heap.size (some ⟨ob, 0, none⟩) st.n oc hA st.m hc st.lots ∧ Below w7.heap.size w7 W8 ∧ w7.heap.size + 1 ≤ W8.heap.size) ⟨(by (repeat' refine And.intro ?_ ?_) <;> (repeat (first | (with_reducible assumption) | (simp; done) | (with_reducible refine cell_drew_of ?_) | (with_reducible refine cell_drewN_of ?_) | (with_reducible refine cell_below_of (by with_reducible assumption) ?_) | ((with_reducible refine cell_new_of ?_ ?_) <;> (first | (with_reducible rfl) | (simp; done))) | ((with_reducible refine fro_new_of ?_) <;> (first | (with_reducible rfl) | (simp; done))) | (with_reducible refine cell_alloc_of _ ?_) | (with_reducible refine cell_set_of _ (by (first | exact Nat.le_refl _ | omega | (simp; done) | (simp; omega))) ?_) | (with_reducible refine fro_drew_of ?_) | (with_reducible refine fro_drewN_of ?_) | (with_reducible refine fro_below_of (by with_reducible assumption) (by (first | exact Nat.le_refl _ | omega | (simp; done) | (simp; omega))) ?_) | (with_reducible refine fro_alloc_of _ (by (first | exact Nat.le_refl _ | omega | (simp; done) | (simp; omega))) ?_) | (with_reducible refine fro_set_of _ ?_)))), (by repeat (first | (with_reducible exact Below.refl _ _) | (with_reducible refine Below.drew ?_) | (with_reducible refine below_drewN ?_ _) | ((with_reducible refine below_alloc ?_ ?_ _); · (first | exact Nat.le_refl _ | omega | (simp; done) | (simp; omega) | (simp at *; omega))) | ((with_reducible refine below_set ?_ ?_ _); · (first | exact Nat.le_refl _ | omega | (simp; done) | (simp; omega) | (simp at *; omega))) | ((with_reducible refine below_via (by with_reducible assumption) ?_ ?_); · (first | exact Nat.le_refl _ | omega | (simp; done) | (simp; omega) | (simp at *; omega))))), by simp⟩ ?_
  rintro w8 ⟨hsb, hba, hs8⟩
  have H8 := Lib.hid (H7.out.later hba)
  have HOP8 := Lib.hid (HOP7.out.later hba)
  have HOG8 := Lib.hid (HOG7.out.later hba)
  have HOM8 := Lib.hid (HOM.out.later hba)
  have HSB8 := Lib.hid hsb
  have HN8 : Hid (NAt W w8 w5.heap.size st w2.heap.size pA gA pc gc lA X) := Lib.hid (HN5.out.over ((HB6.out.trans (HB7.out.mono (by omega))).trans (hba.mono (by omega))))
  clear hsb hba H7 HOP7 HOG7 HOM HN5 HB6 HB7
  have HBY8 := Lib.hid (ByIn.later HBY2.out H8.out.b)
  clear HBY2
  have hW8 := H8.out.b.size
  obtain ⟨s0, s1, s2⟩ := H8.out.s
  have hb8 := H8.out.s.lt
  go_cut [57, 58, 59] (fun a b c wx => ∃ (pA' : Option Addr) (c' : Nat) (S : Nat → Int), a = .slice pA' st.n c' ∧ b = .int .i64 st.n ∧ c = .int .i64 0 ∧ Hid (OwnInt wx w8.heap.size pA' st.n S) ∧ Hid (PermN st.n S) ∧ Hid (Below w8.heap.size w8 wx))
  case first =>
    go_region_with (first | (go_at_call 37; refine (fill_any W.heap.size tA tn tc _ (by (first | omega | (simp only [World.size_alloc, World.size_drew]; omega) | (simp; done) | (simp; omega))) (ByIn.later HBY8.out (show Below W.heap.size w8 _ from (by repeat (first | (with_reducible exact Below.refl _ _) | (with_reducible assumption) | (with_reducible refine Below.drew ?_) | ((with_reducible refine below_alloc ?_ ?_ _); (· (first | exact Nat.le_refl _ | omega | (dsimp only; omega) | (simp only [World.size_alloc, World.size_drew, World.heap_drewN]; omega) | (simp; omega)))) | ((with_reducible refine below_set ?_ ?_ _); (· (first | exact Nat.le_refl _ | omega | (dsimp only; omega) | (simp only [World.size_alloc, World.size_drew, World.heap_drewN]; omega) | (simp; omega)))) | ((with_reducible refine below_via (by with_reducible assumption) ?_ ?_); (· (first | exact Nat.le_refl _ | omega | (dsimp only; omega) | (simp only [World.size_alloc, World.size_drew, World.heap_drewN]; omega) | (simp; omega))))))))).mono ?_; rintro e w9 ⟨qb, rfl, hqb, hb9, hch9⟩; have hq9 := Chute.lt hch9; have hz9 := hb9.size; (try simp only [World.size_drew, World.heap_drewN, World.size_alloc] at hz9 hqb); have s9 := cell_below_of hb9 (show (World.drew _).cell? _ = _ from (cell_drew_of s0))) | (go_at_call 48; refine (shuffled_any W.heap.size qb tA tn tc st.n (by omega) hln2 _ (by (first | omega | (simp only [World.size_alloc, World.size_drew]; omega) | (simp; done) | (simp; omega))) (by (first | omega | (simp only [World.size_alloc, World.size_drew]; omega) | (simp; done) | (simp; omega))) (hch9.later (by repeat (first | (with_reducible exact Below.refl _ _) | (with_reducible assumption) | (with_reducible refine Below.drew ?_) | ((with_reducible refine below_alloc ?_ ?_ _); (· (first | exact Nat.le_refl _ | omega | (dsimp only; omega) | (simp only [World.size_alloc, World.size_drew, World.heap_drewN]; omega) | (simp; omega)))) | ((with_reducible refine below_set ?_ ?_ _); (· (first | exact Nat.le_refl _ | omega | (dsimp only; omega) | (simp only [World.size_alloc, World.size_drew, World.heap_drewN]; omega) | (simp; omega)))) | ((with_reducible refine below_via (by with_reducible assumption) ?_ ?_); (· (first | exact Nat.le_refl _ | omega | (dsimp only; omega) | (simp only [World.size_alloc, World.size_drew, World.heap_drewN]; omega) | (simp; omega)))))))).mono ?_; rintro e w10 ⟨sA, sc, S, rfl, hos, hsc, hpm, hg10, _⟩))
    all_goals
      have hbx : Below w8.heap.size w8 w10 := (show Below w8.heap.size w8 w9 from (by repeat (first | (with_reducible exact Below.refl _ _) | (with_reducible assumption) | (with_reducible refine Below.drew ?_) | ((with_reducible refine below_alloc ?_ ?_ _); (· (first | exact Nat.le_refl _ | omega | (dsimp only; omega) | (simp only [World.size_alloc, World.size_drew, World.heap_drewN]; omega) | (simp; omega)))) | ((with_reducible refine below_set ?_ ?_ _); (· (first | exact Nat.le_refl _ | omega | (dsimp only; omega) | (simp only [World.size_alloc, World.size_drew, World.heap_drewN]; omega) | (simp; omega)))) | ((with_reducible refine below_via (by with_reducible assumption) ?_ ?_); (· (first | exact Nat.le_refl _ | omega | (dsimp only; omega) | (simp only [World.size_alloc, World.size_drew, World.heap_drewN]; omega) | (simp; omega))))))).trans (gb_below (show World.grownBy w9 w10 (some qb) from by first | exact hg10 | exact gb_trans (gb_of_below qb (show Below w9.heap.size w9 _ from (by repeat (first | (with_reducible exact Below.refl _ _) | (with_reducible assumption) | (with_reducible refine Below.drew ?_) | ((with_reducible refine below_alloc ?_ ?_ _); (· (first | exact Nat.le_refl _ | omega | (dsimp only; omega) | (simp only [World.size_alloc, World.size_drew, World.heap_drewN]; omega) | (simp; omega)))) | ((with_reducible refine below_set ?_ ?_ _); (· (first | exact Nat.le_refl _ | omega | (dsimp only; omega) | (simp only [World.size_alloc, World.size_drew, World.heap_drewN]; omega) | (simp; omega)))) | ((with_reducible refine below_via (by with_reducible assumption) ?_ ?_); (· (first | exact Nat.le_refl _ | omega | (dsimp only; omega) | (simp only [World.size_alloc, World.size_drew, World.heap_drewN]; omega) | (simp; omega)))))))) hg10) (by omega) (by omega))
      go_wp2_with fail
      go_meet
      exact ⟨_, _, S, rfl, rfl, rfl, Lib.hid ((hos.low (by omega)).later (by repeat (first | (with_reducible exact Below.refl _ _) | (with_reducible assumption) | (with_reducible refine Below.drew ?_) | ((with_reducible refine below_alloc ?_ ?_ _); (· (first | exact Nat.le_refl _ | omega | (dsimp only; omega) | (simp only [World.size_alloc, World.size_drew, World.heap_drewN]; omega) | (simp; omega)))) | ((with_reducible refine below_set ?_ ?_ _); (· (first | exact Nat.le_refl _ | omega | (dsimp only; omega) | (simp only [World.size_alloc, World.size_drew, World.heap_drewN]; omega) | (simp; omega)))) | ((with_reducible refine below_via (by with_reducible assumption) ?_ ?_); (· (first | exact Nat.le_refl _ | omega | (dsimp only; omega) | (simp only [World.size_alloc, World.size_drew, World.heap_drewN]; omega) | (simp; omega))))))), Lib.hid hpm, Lib.hid (hbx.trans (by repeat (first | (with_reducible exact Below.refl _ _) | (with_reducible assumption) | (with_reducible refine Below.drew ?_) | ((with_reducible refine below_alloc ?_ ?_ _); (· (first | exact Nat.le_refl _ | omega | (dsimp only; omega) | (simp only [World.size_alloc, World.size_drew, World.heap_drewN]; omega) | (simp; omega)))) | ((with_reducible refine below_set ?_ ?_ _); (· (first | exact Nat.le_refl _ | omega | (dsimp only; omega) | (simp only [World.size_alloc, World.size_drew, World.heap_drewN]; omega) | (simp; omega)))) | ((with_reducible refine below_via (by with_reducible assumption) ?_ ?_); (· (first | exact Nat.le_refl _ | omega | (dsimp only; omega) | (simp only [World.size_alloc, World.size_drew, World.heap_drewN]; omega) | (simp; omega)))))))⟩
  case rest =>
    obtain ⟨tA', tc', S, rfl, rfl, rfl, HOS, HPM, HB9⟩ := hcut
    have HN9 := Lib.hid (HN8.out.over (HB9.out.mono (by omega)))
    have HOP9 := Lib.hid (HOP8.out.later HB9.out)
    have HOG9 := Lib.hid (HOG8.out.later HB9.out)
    have HOM9 := Lib.hid (HOM8.out.later HB9.out)
    have HSB9 := Lib.hid (HSB8.out.later HB9.out)
    have hsz9 := HB9.out.size
    clear H8 HN8 HOP8 HOG8 HOM8 HSB8 HB9 HBY8 s0 s1 s2
    obtain ⟨tb, htA, htb, ht0, _⟩ := HOS.out 0 hn.1
    subst htA
    obtain ⟨pb, po, hpA, hpb, _⟩ := HN9.out.r.p 0 hn.1
    subst hpA
    obtain ⟨lb, lo, hlA, hlb, _⟩ := HN9.out.l 0 hn.1
    subst hlA
    clear ht0
    go_upto_region 7 with fail
    go_loopw [59] (fun v wr => ∃ (i : Nat) (P' : Nat → Pk) (X' : Nat → Int), i ≤ st.n ∧ v = .int .i64 i ∧ Hid (∀ t, t < i → P' (S t).toNat = st.P t ∧ X' (S t).toNat = X t) ∧ Hid (NAt W wr w5.heap.size st w2.heap.size (some ⟨pb, po, none⟩) gA pc gc (some ⟨lb, lo, none⟩) X) ∧ Hid (MvAt wr w5.heap.size st w7.heap.size ob mb tb oc hA hc P' X' S)) (fun v _ => st.n - (intOf v).toNat)
    case atStart => exact ⟨0, st.P, X, Nat.zero_le _, rfl, Lib.hid (fun t h => absurd h (by omega)), HN9, Lib.hid ⟨HSB9.out, HOP9.out, HOG9.out, HOM9.out.low (by omega), HOS.out.low (by omega), by omega, by omega, by omega, fun c e => by
      have h1 := HGB.out c e
      exact ⟨h1.2.2, by omega⟩⟩⟩
    case round =>
      clear HN9 HOP9 HOG9 HOM9 HSB9 HOS
      obtain ⟨i, P', X', hi', rfl, HMV, HN, HM⟩ := hrel
      obtain ⟨wo, rfl⟩ : ∃ wo, wo = wr := ⟨_, rfl⟩
      by_cases hlt : i < st.n
      · have hin : (i : Int) < (st.n : Int) := by omega
        have hi0 : (0 : Int) ≤ (i : Int) := by omega
        have hsi := HPM.out.1 i hlt
        obtain ⟨k, hk⟩ := Int.eq_ofNat_of_zero_le hsi.1
        have hkn : k < st.n := by omega
        have hki : (k : Int) < (st.n : Int) := by omega
        have hk0 : (0 : Int) ≤ (k : Int) := by omega
        obtain ⟨tb2, htA, _, tc0, _⟩ := HM.out.t i hlt
        obtain rfl : tb = tb2 := by simpa using htA
        rw [hk] at tc0
        have HK := Lib.hid hk
        clear htA hk hsi
        obtain ⟨s0, s1, s2⟩ := HN.out.s
        obtain ⟨q0, q1, q2⟩ := HM.out.s
        obtain ⟨pb2, po2, hpA, _, p0, p1, p2, p3⟩ := HN.out.r.p i hlt
        obtain ⟨rfl, rfl⟩ : pb = pb2 ∧ po = po2 := by simpa using hpA
        obtain ⟨lb2, lo2, hlA, _, l0⟩ := HN.out.l i hlt
        obtain ⟨rfl, rfl⟩ : lb = lb2 ∧ lo = lo2 := by simpa using hlA
        obtain ⟨ob2, hoA, _, o0, o1, o2, o3, of⟩ := HM.out.p k hkn
        obtain rfl : ob = ob2 := by simpa using hoA
        obtain ⟨mb2, hmA, _, m0, mf⟩ := HM.out.m k hkn
        obtain rfl : mb = mb2 := by simpa using hmA
        have f0 := of (k * 4)
        have f1 := of (k * 4 + 1)
        have f2 := of (k * 4 + 2)
        have f3 := of (k * 4 + 3)
        have mf0 := mf k
        clear hpA hlA hoA hmA of mf
        go_upto_region 9 with fail
        go_region
        have hput := HM.out.put hkn (st.P i) (X i) rfl rfl
        have hbo := hput.2 w5.heap.size (Nat.le_refl _)
        unfold put4 at hput hbo
        refine wp_name_at (fun W' => MvAt W' w5.heap.size st w7.heap.size ob mb tb oc hA hc (fun t => if t = k then st.P i else P' t) (fun t => if t = k then X i else X' t) S ∧ Below w5.heap.size wo W') ⟨hput.1.later (by repeat (first | (with_reducible exact Below.refl _ _) | (with_reducible assumption) | (with_reducible refine Below.drew ?_) | ((with_reducible refine below_alloc ?_ ?_ _); (· (first | exact Nat.le_refl _ | omega | (dsimp only; omega) | (simp only [World.size_alloc, World.size_drew, World.heap_drewN]; omega) | (simp; omega)))) | ((with_reducible refine below_set ?_ ?_ _); (· (first | exact Nat.le_refl _ | omega | (dsimp only; omega) | (simp only [World.size_alloc, World.size_drew, World.heap_drewN]; omega) | (simp; omega)))) | ((with_reducible refine below_via (by with_reducible assumption) ?_ ?_); (· (first | exact Nat.le_refl _ | omega | (dsimp only; omega) | (simp only [World.size_alloc, World.size_drew, World.heap_drewN]; omega) | (simp; omega)))))), hbo.trans (by repeat (first | (with_reducible exact Below.refl _ _) | (with_reducible assumption) | (with_reducible refine Below.drew ?_) | ((with_reducible refine below_alloc ?_ ?_ _); (· (first | exact Nat.le_refl _ | omega | (dsimp only; omega) | (simp only [World.size_alloc, World.size_drew, World.heap_drewN]; omega) | (simp; omega)))) | ((with_reducible refine below_set ?_ ?_ _); (· (first | exact Nat.le_refl _ | omega | (dsimp only; omega) | (simp only [World.size_alloc, World.size_drew, World.heap_drewN]; omega) | (simp; omega)))) | ((with_reducible refine below_via (by with_reducible assumption) ?_ ?_); (· (first | exact Nat.le_refl _ | omega | (dsimp only; omega) | (simp only [World.size_alloc, World.size_drew, World.heap_drewN]; omega) | (simp; omega))))))⟩ ?_
        rintro w1' ⟨hm1, hb1'⟩
        have HM1 := Lib.hid hm1
        have HN1 := Lib.hid (HN.out.over hb1')
        clear hput hbo hm1 hb1'
        have HMV1 : Hid (∀ t, t < i + 1 → (fun t => if t = k then st.P i else P' t) (S t).toNat = st.P t ∧ (fun t => if t = k then X i else X' t) (S t).toNat = X t) := Lib.hid (fun t ht => by
          dsimp only
          by_cases e : t = i
          · subst e
            rw [HK.out, Int.toNat_natCast, if_pos rfl, if_pos rfl]
            exact ⟨rfl, rfl⟩
          · have hne : (S t).toNat ≠ k := fun e2 => by
              have h1 := HPM.out.1 t (by omega)
              have h2 := HPM.out.2 t i (by omega) (by omega) (by have := HK.out; omega)
              exact e h2
            rw [if_neg hne, if_neg hne]
            exact HMV.out t (by omega))
        clear s0 s1 s2 q0 q1 q2 p0 p1 p2 p3 l0 o0 o1 o2 o3 m0 f0 f1 f2 f3 mf0 tc0 HMV HN HM
        go_wp2_with fail
        go_roundw
        case rel => exact ⟨i + 1, _, _, by omega, by go_num, HMV1, HN1, HM1⟩
        case measure => simp [intOf]; omega
      · obtain rfl : i = st.n := by omega
        have hge : ¬ (st.n : Int) < (st.n : Int) := by omega
        obtain ⟨w10, rfl⟩ : ∃ w10, w10 = wo := ⟨_, rfl⟩
        have HNO := Lib.hid (named_ok HST.out hn3 HPM.out HMV.out HX.out)
        clear HMV
        obtain ⟨s0, s1, s2⟩ := HN.out.s
        go_wp2_with fail
        refine (own_any st _ (some ⟨pb, po, none⟩) gA pc gc _ HN.out.r).mono ?_
        rintro e w11 ⟨hb, dA, dc, dgA, dgc, rfl, hop, hog, hdc, hdgc, hdis⟩
        obtain ⟨gb, hgA, hgb, hgc0, _⟩ := hog 0 hm.1
        subst hgA
        have hgb1 := World.block_lt_of_cell? w11 _ hgc0
        dsimp only at hgb1
        have HDD : Hid (∀ c, dA = some ⟨c, 0, none⟩ → c ≠ gb) := Lib.hid (fun c e => fun e2 => by
          have := hdis c gb e rfl hn.1 hm.1
          omega)
        have HB11 := Lib.hid hb
        have hs11 := hb.size
        have HDP := Lib.hid hop
        have HDG := Lib.hid hog
        have hwn := HN.out.b.size
        have HWL := Lib.hid HN.out.r.lt
        clear hb hop hog hdis hgc0 s0 s1 s2
        go_upto_region 12 with fail
        refine wp_name (fun W1 => StAt W1 w11.heap.size dA st.n dc (some ⟨gb, 0, none⟩) st.m dgc st.lots ∧ (W1.frozen? ⟨w11.heap.size, 0, none⟩ = false ∧ W1.frozen? ⟨w11.heap.size, 1, none⟩ = false ∧ W1.frozen? ⟨w11.heap.size, 2, none⟩ = false) ∧ Below w11.heap.size w11 W1 ∧ w11.heap.size + 1 ≤ W1.heap.size) ⟨(by (repeat' refine And.intro ?_ ?_) <;> (repeat (first | (with_reducible assumption) | (simp; done) | (with_reducible refine cell_drew_of ?_) | (with_reducible refine cell_drewN_of ?_) | (with_reducible refine cell_below_of (by with_reducible assumption) ?_) | ((with_reducible refine cell_new_of ?_ ?_) <;> (first | (with_reducible rfl) | (simp; done))) | ((with_reducible refine fro_new_of ?_) <;> (first | (with_reducible rfl) | (simp; done))) | (with_reducible refine cell_alloc_of _ ?_) | (with_reducible refine cell_set_of _ (by (first | exact Nat.le_refl _ | omega | (simp; done) | (simp; omega))) ?_) | (with_reducible refine fro_drew_of ?_) | (with_reducible refine fro_drewN_of ?_) | (with_reducible refine fro_below_of (by with_reducible assumption) (by (first | exact Nat.le_refl _ | omega | (simp; done) | (simp; omega))) ?_) | (with_reducible refine fro_alloc_of _ (by (first | exact Nat.le_refl _ | omega | (simp; done) | (simp; omega))) ?_) | (with_reducible refine fro_set_of _ ?_)))), (by (repeat' refine And.intro ?_ ?_) <;> (repeat (first | (with_reducible assumption) | (simp; done) | (with_reducible refine cell_drew_of ?_) | (with_reducible refine cell_drewN_of ?_) | (with_reducible refine cell_below_of (by with_reducible assumption) ?_) | ((with_reducible refine cell_new_of ?_ ?_) <;> (first | (with_reducible rfl) | (simp; done))) | ((with_reducible refine fro_new_of ?_) <;> (first | (with_reducible rfl) | (simp; done))) | (with_reducible refine cell_alloc_of _ ?_) | (with_reducible refine cell_set_of _ (by (first | exact Nat.le_refl _ | omega | (simp; done) | (simp; omega))) ?_) | (with_reducible refine fro_drew_of ?_) | (with_reducible refine fro_drewN_of ?_) | (with_reducible refine fro_below_of (by with_reducible assumption) (by (first | exact Nat.le_refl _ | omega | (simp; done) | (simp; omega))) ?_) | (with_reducible refine fro_alloc_of _ (by (first | exact Nat.le_refl _ | omega | (simp; done) | (simp; omega))) ?_) | (with_reducible refine fro_set_of _ ?_)))), (by repeat (first | (with_reducible exact Below.refl _ _) | (with_reducible refine Below.drew ?_) | (with_reducible refine below_drewN ?_ _) | ((with_reducible refine below_alloc ?_ ?_ _); · (first | exact Nat.le_refl _ | omega | (simp; done) | (simp; omega) | (simp at *; omega))) | ((with_reducible refine below_set ?_ ?_ _); · (first | exact Nat.le_refl _ | omega | (simp; done) | (simp; omega) | (simp at *; omega))) | ((with_reducible refine below_via (by with_reducible assumption) ?_ ?_); · (first | exact Nat.le_refl _ | omega | (simp; done) | (simp; omega) | (simp at *; omega))))), by simp⟩ ?_
        rintro w12 ⟨hsb, hfr, hba, hs12⟩
        have HD12 : Hid (DrAt w12 w10.heap.size st w11.heap.size gb dA dc dgc (dearG st by1 0)) := Lib.hid ⟨hsb, HDP.out.later hba, (show OwnGd w12 w10.heap.size (some ⟨gb, 0, none⟩) st.m (dearG st by1 0) from fun k hk => by
          obtain ⟨c, h1, h2, h3, h4, h5⟩ := (HDG.out.later hba) k hk
          refine ⟨c, h1, h2, ?_, ?_, h5⟩
          · unfold dearG; rw [if_neg (by omega)]; exact h3
          · unfold dearG; rw [if_neg (by omega)]; exact h4), ⟨by omega, hgb⟩, HDD.out, hfr⟩
        have HB12 := Lib.hid (HB11.out.trans (hba.mono (by omega)))
        clear hsb hfr hba HDP HDG HDD HB11
        obtain ⟨q0, q1, q2⟩ := HD12.out.s
        go_upto_region 13 with fail
        go_loopw [86] (fun v wr => ∃ j : Nat, j ≤ st.m ∧ v = .int .i64 j ∧ Hid (DrAt wr w10.heap.size st w11.heap.size gb dA dc dgc (dearG st by1 j)) ∧ Hid (Below w10.heap.size w10 wr)) (fun v _ => st.m - (intOf v).toNat)
        case atStart => exact ⟨0, Nat.zero_le _, rfl, HD12, HB12⟩
        case round =>
          clear HD12 HB12 q0 q1 q2
          obtain ⟨j, hj, rfl, HD, HB⟩ := hrel
          obtain ⟨wv, rfl⟩ : ∃ wv, wv = wr := ⟨_, rfl⟩
          obtain ⟨q0, q1, q2⟩ := HD.out.s
          by_cases hjt : j < st.m
          · have hji : (j : Int) < (st.m : Int) := by omega
            have hj0 : (0 : Int) ≤ (j : Int) := by omega
            obtain ⟨gb2, hgA, _, d0, d1, df⟩ := HD.out.g j hjt
            obtain rfl : gb = gb2 := by simpa using hgA
            have hdj : dearG st by1 j j = st.G j := by unfold dearG; rw [if_neg (by omega)]
            rw [hdj] at d0 d1
            have df1 := df (j * 2 + 1)
            have hpj := (HST.out.gd j hjt).2
            obtain ⟨pj, hpj'⟩ : ∃ p, (st.G j).price = p := ⟨_, rfl⟩
            rw [hpj'] at d1 hpj
            have HPJ := Lib.hid hpj'
            have em : IntKind.i64.wrap (by1 * pj) = by1 * pj := IntWalk.i64_in _ (by
              have h12 : by1 = 1 ∨ by1 = 2 := by omega
              rcases h12 with h | h <;> rw [h] <;> omega)
            clear hgA hdj df hpj'
            go_upto_region 15 with fail
            go_region
            have HD1 := Lib.hid ((HD.out.put hjt (min 100 (by1 * pj))).congr (G' := dearG st by1 (j + 1)) (fun k hk => by
              by_cases e : k = j
              · subst e
                rw [if_pos rfl]
                unfold dearG
                rw [if_neg (Nat.lt_irrefl _), if_pos (Nat.lt_succ_self _), HPJ.out]
              · rw [if_neg e]
                unfold dearG
                by_cases e2 : k < j
                · rw [if_pos e2, if_pos (by omega)]
                · rw [if_neg e2, if_neg (by omega)]))
            have hbs : Below w10.heap.size wv (wv.setCell ⟨gb, j * 2 + 1, none⟩ (.int .i64 (min 100 (by1 * pj)))) := (Below.refl _ _).setCell (by dsimp only; omega) _
            refine wp_name_at (fun W' => DrAt W' w10.heap.size st w11.heap.size gb dA dc dgc (dearG st by1 (j + 1)) ∧ Below w10.heap.size w10 W') ⟨HD1.out.later (by repeat (first | (with_reducible exact Below.refl _ _) | (with_reducible assumption) | (with_reducible refine Below.drew ?_) | ((with_reducible refine below_alloc ?_ ?_ _); (· (first | exact Nat.le_refl _ | omega | (dsimp only; omega) | (simp only [World.size_alloc, World.size_drew, World.heap_drewN]; omega) | (simp; omega)))) | ((with_reducible refine below_set ?_ ?_ _); (· (first | exact Nat.le_refl _ | omega | (dsimp only; omega) | (simp only [World.size_alloc, World.size_drew, World.heap_drewN]; omega) | (simp; omega)))) | ((with_reducible refine below_via (by with_reducible assumption) ?_ ?_); (· (first | exact Nat.le_refl _ | omega | (dsimp only; omega) | (simp only [World.size_alloc, World.size_drew, World.heap_drewN]; omega) | (simp; omega)))))), (HB.out.trans hbs).trans (by repeat (first | (with_reducible exact Below.refl _ _) | (with_reducible assumption) | (with_reducible refine Below.drew ?_) | ((with_reducible refine below_alloc ?_ ?_ _); (· (first | exact Nat.le_refl _ | omega | (dsimp only; omega) | (simp only [World.size_alloc, World.size_drew, World.heap_drewN]; omega) | (simp; omega)))) | ((with_reducible refine below_set ?_ ?_ _); (· (first | exact Nat.le_refl _ | omega | (dsimp only; omega) | (simp only [World.size_alloc, World.size_drew, World.heap_drewN]; omega) | (simp; omega)))) | ((with_reducible refine below_via (by with_reducible assumption) ?_ ?_); (· (first | exact Nat.le_refl _ | omega | (dsimp only; omega) | (simp only [World.size_alloc, World.size_drew, World.heap_drewN]; omega) | (simp; omega))))))⟩ ?_
            rintro w13 ⟨hd1, hb1'⟩
            have HD2 := Lib.hid hd1
            have HB2 := Lib.hid hb1'
            clear hbs hd1 hb1' HD1 d0 d1 df1 em q0 q1 q2 HD HB
            go_wp2_with fail
            go_roundw
            case rel => exact ⟨j + 1, by omega, by go_num, HD2, HB2⟩
            case measure => simp [intOf]; omega
          · obtain rfl : j = st.m := by omega
            have hge : ¬ (st.m : Int) < (st.m : Int) := by omega
            have HN13 := Lib.hid (HN.out.over (HB.out.mono HWL.out))
            have HM13 := Lib.hid (HM.out.later HB.out)
            have hm0 : (0 : Int) < (st.m : Int) := by omega
            obtain ⟨gb2, hgA, _, d0, d1, _⟩ := HD.out.g 0 hm.1
            obtain rfl : gb = gb2 := by simpa using hgA
            have hd0 : dearG st by1 st.m 0 = ⟨(st.G 0).foul, min 100 (by1 * (st.G 0).price)⟩ := by unfold dearG; rw [if_pos (show 0 < st.m by omega)]
            rw [hd0] at d1
            simp only [Nat.zero_mul, Nat.zero_add] at d1
            have hb12 : by1 = 1 ∨ by1 = 2 := by omega
            clear hgA hd0 d0
            rcases hb12 with rfl | rfl
            · have HDR := Lib.hid (dear_is HST.out (b := 1) (.inl rfl) (.inl rfl))
              have H0 : Hid (NmAll W wv w5.heap.size w5.heap.size st w2.heap.size w7.heap.size w11.heap.size (some ⟨pb, po, none⟩) gA pc gc (some ⟨lb, lo, none⟩) X ob mb tb oc hA hc P' X' S dA (some ⟨gb, 0, none⟩) dc dgc (dearG st 1 st.m)) := Lib.hid ⟨HN13.out, HM13.out, HD.out.s, StRow.of_own (st := { st with G := dearG st 1 st.m }) HD.out.p HD.out.g (by show st.n ≤ 1000; omega) (by show st.m ≤ 1000; omega) hdc hdgc⟩
              clear HN HM HB HD HN13 HM13 d1 q0 q1 q2
              go_upto_region 19 with fail
              exact named_rest W w5.heap.size w5.heap.size st w2.heap.size w7.heap.size w11.heap.size (some ⟨pb, po, none⟩) gA pc gc (some ⟨lb, lo, none⟩) lc X ob mb tb oc mc hA hc P' X' S dA (some ⟨gb, 0, none⟩) dc dgc (dearG st 1 st.m) 1 HST ⟨hn.1, hn4⟩ hm hoc hhc hmc (by decide) HA HNO HDR _ H0 _ (by assumption)
            · by_cases hp : min 100 (2 * (st.G 0).price) = 100
              · have HDR := Lib.hid (dear_same HST.out)
                rw [hp] at d1
                clear hp
                obtain ⟨s0, s1, s2⟩ := HN13.out.s
                go_wp2_with fail
                refine (own_any st _ (some ⟨pb, po, none⟩) gA pc gc _ HN13.out.r).mono ?_
                rintro e w14 ⟨hb, eA, ec, eg, egc, rfl, hop, hog, hec, hegc, _⟩
                have HDx := Lib.hid (HD.out.later hb)
                have HBx := Lib.hid (HB.out.trans (hb.mono HB.out.size))
                have HEP := Lib.hid hop
                have HEG := Lib.hid hog
                have hlt := HD.out.s.lt
                have hs14 := hb.size
                have hwl := HWL.out
                have hgt : w10.heap.size ≤ w11.heap.size := hs11
                obtain ⟨q0, q1, q2⟩ := HDx.out.s
                obtain ⟨g0, g1, g2⟩ := HDx.out.f
                clear hb hop hog s0 s1 s2 d1 HN13 HM13 HD HB
                go_upto_region 19 with fail
                refine wp_name (fun W' => StAt W' w11.heap.size eA st.n ec eg st.m egc st.lots ∧ Below w11.heap.size w14 W' ∧ (∀ k, k ≠ w11.heap.size → W'.heap[k]? = w14.heap[k]?) ∧ w14.heap.size ≤ W'.heap.size) ⟨⟨by simp [go_sem, q0], by simp [go_sem, q0, q1], by simp [go_sem, q0, q1, q2]⟩, (((Below.refl _ _).setCell (by simp) _).setCell (by simp) _).setCell (by simp) _, fun k hk => (set_heap _ hk).trans ((set_heap _ hk).trans (set_heap _ hk)), by simp [World.setCell]⟩ ?_
                rintro w15 ⟨hst, hbl, hkp, hsz⟩
                have HBy : Hid (Below w10.heap.size w10 w15) := Lib.hid (HBx.out.trans (hbl.mono hgt))
                have H0 : Hid (NmAll W w15 w5.heap.size w5.heap.size st w2.heap.size w7.heap.size w11.heap.size (some ⟨pb, po, none⟩) gA pc gc (some ⟨lb, lo, none⟩) X ob mb tb oc hA hc P' X' S eA eg ec egc st.G) := Lib.hid ⟨HN.out.over (HBy.out.mono HWL.out), HM.out.later HBy.out, hst, StRow.of_own (st := { st with G := st.G }) (HEP.out.keep (fun b h1 h2 => hkp b (by omega))) (HEG.out.keep (fun b h1 h2 => hkp b (by omega))) (by show st.n ≤ 1000; omega) (by show st.m ≤ 1000; omega) hec hegc⟩
                clear hst hbl hkp hsz HBy HBx HDx HEP HEG HN HM q0 q1 q2 g0 g1 g2
                exact named_rest W w5.heap.size w5.heap.size st w2.heap.size w7.heap.size w11.heap.size (some ⟨pb, po, none⟩) gA pc gc (some ⟨lb, lo, none⟩) lc X ob mb tb oc mc hA hc P' X' S eA eg ec egc st.G 1 HST ⟨hn.1, hn4⟩ hm hoc hhc hmc (by decide) HA HNO HDR _ H0 _ (by assumption)
              · have HDR := Lib.hid (dear_is HST.out (b := 2) (.inr rfl) (.inr (by omega)))
                have hpq : (min 100 (2 * (st.G 0).price) == 100) = false := by simpa using hp
                clear hp
                have H0 : Hid (NmAll W wv w5.heap.size w5.heap.size st w2.heap.size w7.heap.size w11.heap.size (some ⟨pb, po, none⟩) gA pc gc (some ⟨lb, lo, none⟩) X ob mb tb oc hA hc P' X' S dA (some ⟨gb, 0, none⟩) dc dgc (dearG st 2 st.m)) := Lib.hid ⟨HN13.out, HM13.out, HD.out.s, StRow.of_own (st := { st with G := dearG st 2 st.m }) HD.out.p HD.out.g (by show st.n ≤ 1000; omega) (by show st.m ≤ 1000; omega) hdc hdgc⟩
                clear HN HM HB HD HN13 HM13 q0 q2
                go_upto_region 19 with fail
                exact named_rest W w5.heap.size w5.heap.size st w2.heap.size w7.heap.size w11.heap.size (some ⟨pb, po, none⟩) gA pc gc (some ⟨lb, lo, none⟩) lc X ob mb tb oc mc hA hc P' X' S dA (some ⟨gb, 0, none⟩) dc dgc (dearG st 2 st.m) 2 HST ⟨hn.1, hn4⟩ hm hoc hhc hmc (by decide) HA HNO HDR _ H0 _ (by assumption)
end Go.Proofs.Ytegmomappbehcaa

set_option linter.unusedSimpArgs false
set_option linter.unusedVariables false
namespace Go.Proofs.Ytegmomappbehcaa
open Go.ChangeShapes Go.WideShapes Go.ChangeAt Go.RowKit

set_option maxRecDepth 100000 in
set_option maxHeartbeats 1000000 in
theorem named_lifted (os : Os) (started : os.Started) (H : Type) (enc : TypeId × Value → H) :
    ReturnsInHanded {} Try.checked os 8 .any (Rows.lotNamedSpec.pre6 enc Try.prog Try.f8 Rows.lotNamedRow.domain false) (Rows.lotNamedSpec.post enc Try.prog Try.f8 false true false false) := by
  refine returnsInHanded_of_change (C := Try.checked) own_knob started (by kernel_rfl) Try.func8
    (ChangeSpec.witness6 (enc := enc) (C := Try.checked) false ⟨#[], #[.slice none 0 0, .slice none 0 0, .int .i64 0], []⟩ 8 (by kernel_rfl) (by kernel_rfl) (by kernel_rfl) (by kernel_rfl)) ?_
  intro W base args ds gs before hval0 hW hcnd _
  have hval : ∀ (j : Nat) t v, Try.f8.params[j]? = some t → args[j]? = some v → Value.okWide Try.prog W .any base t v := hval0
  have hW' := hW
  obtain ⟨p, q, hA0, hV, rfl, hfz, hnd⟩ := hW
  have hA : DataW.TrodAll enc Try.prog W 0 (fun _ => true) true Try.f8.params.toList args.toList ds p := hA0
  rw [Try.params8] at hA hval
  obtain ⟨v0, v1, v2, d0, d1, d2, p0, p1, p2, rfl, rfl, rfl, h0, h1, h2⟩ := trodAll_three hA
  obtain ⟨rfl, rfl⟩ := trodVars_none hV
  obtain ⟨a0, n0, c0, rfl⟩ := okWide_slice Try.underlying63 (hval 0 63 v0 rfl rfl)
  have h0k := h0
  obtain ⟨f0, g0⟩ := h0
  obtain ⟨A, n, c, hv, hby0, hmx0⟩ := open_bytes (v := .slice a0 n0 c0) g0
  injection hv with hv1 hv2 hv3
  subst hv1 hv2 hv3
  obtain ⟨a1, n1, c1, rfl⟩ := okWide_slice Try.underlying63 (hval 1 63 v1 rfl rfl)
  have h1k := h1
  obtain ⟨f1, g1⟩ := h1
  obtain ⟨A, n, c, hv, hby1, hmx1⟩ := open_bytes (v := .slice a1 n1 c1) g1
  injection hv with hv1 hv2 hv3
  subst hv1 hv2 hv3
  obtain ⟨k2, rfl, rfl, rfl, w2⟩ := open_int Try.underlying3 (hval 2 3 v2 rfl rfl) h2
  clear hA0 hval0
  simp only [List.append_nil] at hW'
  have hlt0 : ∀ x ∈ p0, x.block < W.heap.size := fun x hx => hW'.lt x (by simp [hx])
  have hlt1 : ∀ x ∈ p1, x.block < W.heap.size := fun x hx => hW'.lt x (by simp [hx])
  refine (named_law a0 n0 c0 a1 n1 c1 k2 W hby0 (by unfold maxLen at hmx0; omega) hby1 (by unfold maxLen at hmx1; omega)).mono fun e W' ⟨he, bel⟩ => ?_
  subst he
  exact ⟨_, rfl, _, _, _, [], _, [], hW', trodAll_mk1 (shut_bool Try.underlying4 true),
    trodAll_mk3 (Below.trod laid_out (by kernel_rfl) (of_decide_eq_true (by kernel_rfl)) h0k bel hlt0) (Below.trod laid_out (by kernel_rfl) (of_decide_eq_true (by kernel_rfl)) h1k bel hlt1) (shut_int Try.underlying3 w2), rfl, bel.frame _, fun h => by cases h⟩

theorem lot_named_holds : Rows.LotNamedSaid :=
  OpenClaim.holds_of_wide 8 Try.f8 rfl rfl rfl rfl rfl rfl rfl ⟨rfl, rfl, rfl, rfl, rfl⟩ rfl rfl rfl rfl rfl (by kernel_rfl) Try.func8 (by kernel_rfl)
    (of_decide_eq_true (by kernel_rfl)) (by unfold Func.isWrapper; first | (rw [if_pos (by decide +kernel)]; kernel_rfl) | (rw [if_neg (by decide +kernel)]; exact ⟨rfl, rfl⟩))
    (fun os started H enc _ => named_lifted os started H enc)
#print axioms lot_named_holds
end Go.Proofs.Ytegmomappbehcaa
