/- LotOpened: the joined statement. -/
import Derived.Test.YtegmomappbehcaaTp
import Derived.Test.YtegmomappbehcaaWs
import Derived.Test.YtegmomappbehcaaPmm
import Derived.Test.YtegmomappbehcaaWo
import Derived.Test.YtegmomappbehcaaWv
import Derived.Test.YtegmomappbehcaaWx
import Derived.Test.YtegmomappbehcaaWi
import Derived.Test.YtegmomappbehcaaRows
import Derived.Test.YtegmomappbehcaaPo
set_option linter.unusedSimpArgs false
set_option linter.unusedVariables false
namespace Go.Proofs.Ytegmomappbehcaa

theorem sumN_cons (f : Nat → Int) : ∀ n, sumN f (n + 1) = f 0 + sumN (fun k => f (k + 1)) n
  | 0 => by simp [sumN]
  | n + 1 => by
    show sumN f (n + 1) + f (n + 1) = f 0 + (sumN (fun k => f (k + 1)) n + f (n + 1))
    rw [sumN_cons f n]
    omega
theorem St.choOf_form (st : St) (k : Nat) (left : Bag) (l : List Bag) : (st.choOf k left l = (bagZ, 0)) ∨ ∃ b, b ∈ l ∧ st.brings b ≠ 0 ∧ st.choOf k left l = (b, st.brings b + (st.choose k (left.less b)).2) := by
  have key : ∀ (l : List Bag) (acc : Bag × Int), (l.foldl (st.chStep (fun x => (st.choose k x).2) left) acc = acc) ∨ ∃ b, b ∈ l ∧ st.brings b ≠ 0 ∧ l.foldl (st.chStep (fun x => (st.choose k x).2) left) acc = (b, st.brings b + (st.choose k (left.less b)).2) := by
    intro l
    induction l with
    | nil => intro acc; exact .inl rfl
    | cons a l ih =>
      intro acc
      rw [List.foldl_cons]
      have ha : st.chStep (fun x => (st.choose k x).2) left acc a = acc ∨ st.brings a ≠ 0 ∧ st.chStep (fun x => (st.choose k x).2) left acc a = (a, st.brings a + (st.choose k (left.less a)).2) := by
        unfold St.chStep
        by_cases hb : st.brings a = 0
        · rw [if_pos hb]; exact .inl rfl
        · rw [if_neg hb]
          split
          · exact .inr ⟨hb, rfl⟩
          · exact .inl rfl
      rcases ih (st.chStep (fun x => (st.choose k x).2) left acc a) with h | ⟨b, h1, h2, h3⟩
      · rw [h]
        rcases ha with ha | ⟨h1, h2⟩
        · exact .inl ha
        · exact .inr ⟨a, by simp, h1, h2⟩
      · exact .inr ⟨b, by simp [h1], h2, h3⟩
  exact key l _
theorem Bag.less_atp (x y : Bag) : ∀ p, (x.less y).at p = x.at p - y.at p
  | 0 => rfl
  | 1 => rfl
  | 2 => rfl
  | 3 => rfl
  | n + 4 => rfl
theorem St.planN_all {st : St} (hst : st.ok) : ∀ (k : Nat) (left : Bag), left.in_ st.all →
    (∀ x, x ∈ st.planN k left → x.in_ left ∧ st.brings x ≠ 0) ∧ (∀ p, sumN (fun j => ((st.planN k left).getD j bagZ).at p) (st.planN k left).length ≤ left.at p) ∧ sumN (fun j => st.brings ((st.planN k left).getD j bagZ)) (st.planN k left).length = (st.choose k left).2
  | 0, left, hl => ⟨fun x hx => by simp [St.planN] at hx, fun p => Int.le_trans (Int.le_refl 0) (Bag.in_at hl p).1, rfl⟩
  | k + 1, left, hl => by
    have hbd := St.choose_bd hst (k + 1) left hl
    rw [St.planN_succ]
    by_cases h0 : 0 < (st.choose (k + 1) left).2
    · rw [if_pos (by simpa using h0)]
      rcases st.choOf_form k left (bagsOf left) with h | ⟨b, h1, h2, h3⟩
      · rw [St.choose_succ, h] at h0
        exact absurd h0 (by decide)
      · have hb := mem_bagsOf.1 h1
        have hli : (left.less b).in_ st.all := Bag.in_trans (Bag.less_in hb) hl
        have e1 : (st.choose (k + 1) left).1 = b := by rw [St.choose_succ, h3]
        have e2 : (st.choose (k + 1) left).2 = st.brings b + (st.choose k (left.less b)).2 := by rw [St.choose_succ, h3]
        rw [e1, e2]
        obtain ⟨i1, i2, i3⟩ := St.planN_all hst k (left.less b) hli
        refine ⟨fun x hx => ?_, fun p => ?_, ?_⟩
        · rcases List.mem_cons.1 hx with rfl | hx
          · exact ⟨hb, h2⟩
          · exact ⟨Bag.in_trans (i1 x hx).1 (Bag.less_in hb), (i1 x hx).2⟩
        · rw [List.length_cons, sumN_cons]
          have h4 := i2 p
          rw [Bag.less_atp] at h4
          show b.at p + sumN (fun j => ((st.planN k (left.less b)).getD j bagZ).at p) (st.planN k (left.less b)).length ≤ left.at p
          omega
        · rw [List.length_cons, sumN_cons]
          show st.brings b + sumN (fun j => st.brings ((st.planN k (left.less b)).getD j bagZ)) _ = _
          rw [i3]
    · rw [if_neg (by simpa using h0)]
      refine ⟨fun x hx => by simp at hx, fun p => ?_, ?_⟩
      · exact (Bag.in_at hl p).1
      · show (0 : Int) = (st.choose (k + 1) left).2
        omega
/-- the rows of a plan that is told -/
def St.planL (st : St) (j : Nat) : Nat × (Nat → Int) := (st.n, ((st.planN st.lots.toNat st.all).getD j bagZ).at)
theorem St.lot_in {st : St} {x : Bag} (h4 : st.n ≤ 4) (h : x.in_ st.all) : st.lotErr st.n x.at = 0 := by
  unfold St.lotErr
  rw [if_neg (by simp), if_neg]
  rw [allN_iff.2 (fun k hk => by
    have h1 := St.in_all h k hk (by omega)
    simp [inB]; omega)]
  decide
theorem St.ask_in {st : St} {x : Bag} (hst : st.ok) (h : x.in_ st.all) : st.askErr st.n x.at = 0 := by
  unfold St.askErr
  rw [if_neg (by simp [St.check_ok.2 hst])]
  exact St.lot_in hst.n4 h
theorem St.plan_get {st : St} (hst : st.ok) {j : Nat} (hj : j < (st.planN st.lots.toNat st.all).length) : ((st.planN st.lots.toNat st.all).getD j bagZ).in_ st.all ∧ st.brings ((st.planN st.lots.toNat st.all).getD j bagZ) ≠ 0 := by
  have ha : st.all.in_ st.all := ⟨⟨(St.all_bd hst 0).1, Int.le_refl _⟩, ⟨(St.all_bd hst 1).1, Int.le_refl _⟩, ⟨(St.all_bd hst 2).1, Int.le_refl _⟩, (St.all_bd hst 3).1, Int.le_refl _⟩
  refine (St.planN_all hst st.lots.toNat st.all ha).1 _ ?_
  rw [List.getD_eq_getElem?_getD, List.getElem?_eq_getElem hj]
  exact List.getElem_mem _
/-- the plan that is told is one, and brings what is said -/
theorem St.plan_earns {st : St} (hst : st.ok) : st.earnsR (st.planN st.lots.toNat st.all).length st.planL = ((st.choose st.lots.toNat st.all).2, 0) := by
  have ha : st.all.in_ st.all := ⟨⟨(St.all_bd hst 0).1, Int.le_refl _⟩, ⟨(St.all_bd hst 1).1, Int.le_refl _⟩, ⟨(St.all_bd hst 2).1, Int.le_refl _⟩, (St.all_bd hst 3).1, Int.le_refl _⟩
  obtain ⟨h1, h2, h3⟩ := St.planN_all hst st.lots.toNat st.all ha
  have hl := St.planN_len st st.lots.toNat st.all
  have l0 := hst.l0
  have e : st.earnsErr (st.planN st.lots.toNat st.all).length st.planL = 0 := by
    unfold St.earnsErr
    rw [if_neg (by simp [St.check_ok.2 hst]), if_neg (by omega)]
    have hf : firstErr (fun j => st.lotErr (st.planL j).1 (st.planL j).2) (st.planN st.lots.toNat st.all).length = 0 := firstErr_zero (fun j hj => St.lot_in hst.n4 (St.plan_get hst hj).1)
    rw [hf, if_neg (by simp), if_neg]
    rw [allN_iff.2 (fun p hp => by
      have h4 := h2 p
      rw [st.all_at p (by have := hst.n4; omega), if_pos hp] at h4
      simpa [planSum, St.planL] using h4)]
    decide
  unfold St.earnsR
  rw [e, if_neg (by simp), ← h3]
  congr 1
  exact sumN_congr (fun j hj => by
    show st.brings (bagOf ((st.planN st.lots.toNat st.all).getD j bagZ).at st.n) = _
    rw [bagOf_at_in hst.n4 (St.plan_get hst hj).1])
theorem St.brings_in {st : St} (hst : st.ok) {x : Bag} (h : x.in_ st.all) : st.bringsR st.n x.at = (st.brings x, 0) := by
  unfold St.bringsR
  rw [if_neg (by simp [St.ask_in hst h]), bagOf_at_in hst.n4 h]
/-- rows of bags are rows of a plan -/
theorem RowsOf.plan {w : World} {A : Option Addr} {n : Nat} {l : List Bag} (h : RowsOf w w.heap.size A n l) (L : Nat → Nat × (Nat → Int)) (hL : ∀ j x, l[j]? = some x → L j = (n, x.at)) : PlanRow w w.heap.size A l.length L := fun k hk => by
  obtain ⟨b, o, rb, h1, h2, h3, h4, h5⟩ := h k l[k] (List.getElem?_eq_getElem hk)
  have e := hL k l[k] (List.getElem?_eq_getElem hk)
  refine ⟨b, o, some ⟨rb, 0, none⟩, n, h1, h2, by rw [e]; exact h3, by rw [e]; exact Nat.le_refl _, ?_⟩
  rw [e]
  exact fun i hi => ⟨rb, 0, rfl, h4, by rw [Nat.zero_add]; exact h5 i hi⟩
end Go.Proofs.Ytegmomappbehcaa

set_option linter.unusedSimpArgs false
set_option linter.unusedVariables false
namespace Go.Proofs.Ytegmomappbehcaa

theorem St.choOf_ge (st : St) (k : Nat) (left : Bag) : ∀ (l : List Bag) (acc : Bag × Int), acc.2 ≤ (l.foldl (st.chStep (fun x => (st.choose k x).2) left) acc).2 ∧ ∀ b, b ∈ l → st.brings b ≠ 0 → st.brings b + (st.choose k (left.less b)).2 ≤ (l.foldl (st.chStep (fun x => (st.choose k x).2) left) acc).2
  | [], acc => ⟨Int.le_refl _, fun b hb => by cases hb⟩
  | a :: l, acc => by
    simp only [List.foldl_cons]
    obtain ⟨h1, h2⟩ := St.choOf_ge st k left l (st.chStep (fun x => (st.choose k x).2) left acc a)
    have hs : acc.2 ≤ (st.chStep (fun x => (st.choose k x).2) left acc a).2 ∧ (st.brings a ≠ 0 → st.brings a + (st.choose k (left.less a)).2 ≤ (st.chStep (fun x => (st.choose k x).2) left acc a).2) := by
      unfold St.chStep
      by_cases hb : st.brings a = 0
      · rw [if_pos hb]
        exact ⟨Int.le_refl _, fun h => absurd hb h⟩
      · rw [if_neg hb]
        by_cases hlt : acc.2 < st.brings a + (st.choose k (left.less a)).2
        · rw [if_pos (by simpa using hlt)]
          exact ⟨by dsimp only; omega, fun _ => Int.le_refl _⟩
        · rw [if_neg (by simpa using hlt)]
          exact ⟨Int.le_refl _, fun _ => by omega⟩
    refine ⟨by omega, fun b hb hn => ?_⟩
    rcases List.mem_cons.1 hb with rfl | hb
    · have := hs.2 hn
      omega
    · exact h2 b hb hn
theorem St.choose_ge (st : St) (k : Nat) {left b : Bag} (hb : b.in_ left) (hn : st.brings b ≠ 0) : st.brings b + (st.choose k (left.less b)).2 ≤ (st.choose (k + 1) left).2 :=
  (St.choOf_ge st k left (bagsOf left) (bagZ, 0)).2 b (mem_bagsOf.2 hb) hn
theorem Bag.in_of_at {x y : Bag} (h : ∀ p, p < 4 → 0 ≤ x.at p ∧ x.at p ≤ y.at p) : x.in_ y :=
  ⟨h 0 (by omega), h 1 (by omega), h 2 (by omega), h 3 (by omega)⟩
theorem sumN_nn {f : Nat → Int} {n : Nat} (h : ∀ k, k < n → 0 ≤ f k) : 0 ≤ sumN f n := by
  have := sumN_le (f := fun _ => 0) (g := f) (n := n) h
  rw [sumN_zero (fun k _ => rfl)] at this
  exact this
/-- no plan brings more than the one that is told -/
theorem St.plan_le {st : St} (hst : st.ok) : ∀ (m k : Nat) (B : Nat → Bag) (left : Bag), left.in_ st.all → m ≤ k → (∀ j, j < m → ∀ p, p < 4 → 0 ≤ (B j).at p) → (∀ p, p < 4 → sumN (fun j => (B j).at p) m ≤ left.at p) → sumN (fun j => st.brings (B j)) m ≤ (st.choose k left).2
  | 0, k, B, left, hl, _, _, _ => (St.choose_bd hst k left hl).1
  | m + 1, k, B, left, hl, hk, hB, hs => by
    obtain ⟨k, rfl⟩ : ∃ q, k = q + 1 := ⟨k - 1, by omega⟩
    have h0 : ∀ p, p < 4 → (B 0).at p + sumN (fun j => (B (j + 1)).at p) m ≤ left.at p := fun p hp => by have := hs p hp; rw [sumN_cons] at this; exact this
    have hnn : ∀ p, p < 4 → 0 ≤ sumN (fun j => (B (j + 1)).at p) m := fun p hp => sumN_nn (fun j hj => hB (j + 1) (by omega) p hp)
    rw [sumN_cons]
    by_cases hb : st.brings (B 0) = 0
    · rw [hb, Int.zero_add]
      exact St.plan_le hst m (k + 1) (fun j => B (j + 1)) left hl (by omega) (fun j hj => hB (j + 1) (by omega)) (fun p hp => by have := h0 p hp; have := hB 0 (by omega) p hp; show sumN (fun j => (B (j + 1)).at p) m ≤ left.at p; omega)
    · have hin : (B 0).in_ left := Bag.in_of_at (fun p hp => by have := h0 p hp; have := hnn p hp; have := hB 0 (by omega) p hp; omega)
      have h1 := St.choose_ge st k hin hb
      have h2 := St.plan_le hst m k (fun j => B (j + 1)) (left.less (B 0)) (Bag.in_trans (Bag.less_in hin) hl) (by omega) (fun j hj => hB (j + 1) (by omega)) (fun p hp => by rw [Bag.less_atp]; have := h0 p hp; show sumN (fun j => (B (j + 1)).at p) m ≤ left.at p - (B 0).at p; omega)
      show st.brings (B 0) + sumN (fun j => st.brings (B (j + 1))) m ≤ _
      omega
theorem St.all_self {st : St} (hst : st.ok) : st.all.in_ st.all := ⟨⟨(St.all_bd hst 0).1, Int.le_refl _⟩, ⟨(St.all_bd hst 1).1, Int.le_refl _⟩, ⟨(St.all_bd hst 2).1, Int.le_refl _⟩, (St.all_bd hst 3).1, Int.le_refl _⟩
theorem costN_less (X : Nat → Int) (x y : Bag) (n : Nat) : costN X (x.less y) n = costN X x n - costN X y n := by
  unfold costN
  induction n with
  | zero => rfl
  | succ n ih =>
    simp only [sumN]
    rw [ih, Bag.less_atp, Int.mul_sub]
    omega
theorem costN_nn {X : Nat → Int} {x : Bag} {n : Nat} (hX : ∀ k, k < n → 0 ≤ X k) (hx : ∀ k, 0 ≤ x.at k) : 0 ≤ costN X x n := sumN_nn (fun k hk => Int.mul_nonneg (hX k hk) (hx k))
/-- prices that bound each lot bound all plans -/
theorem St.choose_cost {st : St} (hst : st.ok) {X : Nat → Int} {n : Nat} (hX : ∀ k, k < n → 0 ≤ X k) (hc : ∀ b, b.in_ st.all → st.brings b ≤ costN X b n) : ∀ (k : Nat) (left : Bag), left.in_ st.all → (st.choose k left).2 ≤ costN X left n
  | 0, left, hl => costN_nn hX (fun p => (Bag.in_at hl p).1)
  | k + 1, left, hl => by
    rw [St.choose_succ]
    rcases St.choOf_form st k left (bagsOf left) with h | ⟨b, h1, h2, h3⟩
    · rw [h]
      exact costN_nn hX (fun p => (Bag.in_at hl p).1)
    · rw [h3]
      have hb := mem_bagsOf.1 h1
      have h4 := hc b (Bag.in_trans hb hl)
      have h5 := St.choose_cost hst hX hc k (left.less b) (Bag.in_trans (Bag.less_in hb) hl)
      rw [costN_less] at h5
      dsimp only
      omega
theorem gprice_le {st : St} (hst : st.ok) {i : Nat} : ∀ d, i + d < st.m → (st.G (i + d)).price ≤ (st.G i).price
  | 0, _ => Int.le_refl _
  | d + 1, h => by
    have h1 := gprice_le hst (i := i) d (by omega)
    have h2 := (hst.up (i + d) (by omega)).2
    show (st.G (i + d + 1)).price ≤ _
    omega
theorem price_le {st : St} (hst : st.ok) (hm : 0 < st.m) (x : Bag) : st.price x ≤ (st.G 0).price := by
  unfold St.price
  split
  · have := gprice_le hst (i := 0) (st.first x) (by omega)
    rw [Nat.zero_add] at this
    exact this
  · have := (hst.gd 0 hm).2
    omega
theorem cost_const (c : Int) (x : Bag) (n : Nat) : costN (fun _ => c) x n = c * sumN x.at n := by
  unfold costN
  induction n with
  | zero => simp [sumN]
  | succ n ih => simp only [sumN]; rw [ih, Int.mul_add]
theorem bag_atsum {st : St} (h4 : st.n ≤ 4) {x : Bag} (h : x.in_ st.all) : sumN x.at st.n = x.size := by
  have := bag_sum (st := st) (X := x.at) h4
  rw [bagOf_at_in h4 h] at this
  exact this
/-- the price of the best grade for each sack bounds all plans -/
theorem bound_best {st : St} (hst : st.ok) (hm : 0 < st.m) {b : Bag} (hb : b.in_ st.all) : st.brings b ≤ costN (fun _ => (st.G 0).price) b st.n := by
  rw [cost_const, bag_atsum hst.n4 hb]
  unfold St.brings
  have h1 := (St.size_bd hst hb).1
  have h2 := Int.mul_le_mul_of_nonneg_left (price_le hst hm b) h1
  rw [Int.mul_comm (st.G 0).price]
  exact h2
theorem costN_congr {X Y : Nat → Int} {x : Bag} {n : Nat} (h : ∀ k, k < n → X k = Y k) : costN X x n = costN Y x n := sumN_congr (fun k hk => by rw [h k hk])
theorem bound_err {st : St} (hst : st.ok) {X : Nat → Int} (hX : ∀ k, k < st.n → 0 ≤ X k ∧ X k ≤ 100) : st.boundErr st.n X = if st.fits X st.n (bagsOf st.all) = false then 8 else 0 := by
  unfold St.boundErr
  rw [if_neg (by simp [St.check_ok.2 hst]), if_neg (by simp), if_neg]
  rw [allN_iff.2 (fun k hk => by
    have h1 := hX k hk
    simp [inB]; omega)]
  decide
/-- what the law asks of a bound -/
theorem bound_fits {st : St} (hst : st.ok) {X : Nat → Int} (hX : ∀ k, k < st.n → 0 ≤ X k ∧ X k ≤ 100) : (st.boundR st.n X = (0, 8)) ∨ ((st.boundR st.n X).2 = 0 ∧ (st.choose st.lots.toNat st.all).2 ≤ (st.boundR st.n X).1) := by
  have he := bound_err hst hX
  unfold St.boundR
  rw [he]
  by_cases hf : st.fits X st.n (bagsOf st.all) = false
  · rw [if_pos hf]
    exact .inl rfl
  · rw [if_neg hf]
    refine .inr ⟨rfl, ?_⟩
    have hc : ∀ b, b.in_ st.all → st.brings b ≤ costN X b st.n := fun b hb => by
      have h1 : st.fits X st.n (bagsOf st.all) = true := by simpa using hf
      unfold St.fits at h1
      rw [List.all_eq_true] at h1
      simpa using h1 b (mem_bagsOf.2 hb)
    exact St.choose_cost hst (fun k hk => (hX k hk).1) hc _ _ (St.all_self hst)
theorem bound_ok {st : St} (hst : st.ok) (hm : 0 < st.m) {X : Nat → Int} (hX : ∀ k, k < st.n → X k = (st.G 0).price) : (st.boundR st.n X).2 = 0 ∧ (st.choose st.lots.toNat st.all).2 ≤ (st.boundR st.n X).1 := by
  have hp := (hst.gd 0 hm).2
  have hX1 : ∀ k, k < st.n → 0 ≤ X k ∧ X k ≤ 100 := fun k hk => by rw [hX k hk]; omega
  rcases bound_fits hst hX1 with h | h
  · exfalso
    have he := bound_err hst hX1
    have hf : st.fits X st.n (bagsOf st.all) = true := by
      unfold St.fits
      rw [List.all_eq_true]
      intro b hb
      have := bound_best hst hm (mem_bagsOf.1 hb)
      rw [costN_congr (Y := fun _ => (st.G 0).price) hX]
      simpa using this
    rw [hf] at he
    unfold St.boundR at h
    rw [he] at h
    simp at h
  · exact h
theorem bagOf_off {X : Nat → Int} {n p : Nat} (h : ¬ p < n) : (bagOf X n).at p = 0 := by
  match p with
  | 0 => simp [bagOf, bagK, Bag.at, h]
  | 1 => simp [bagOf, bagK, Bag.at, h]
  | 2 => simp [bagOf, bagK, Bag.at, h]
  | 3 => simp [bagOf, bagK, Bag.at, h]
  | p + 4 => rfl
theorem tried_in {st : St} (hst : st.ok) {X : Nat → Int} (h1 : ∀ i, i < st.n → 0 ≤ X i) (h2 : ∀ i, i < st.n → X i ≤ (st.P i).s) : (bagOf X st.n).in_ st.all := bagOf_in (St.askErr_ok (lot_ask hst (fun k hk => ⟨h1 k hk, h2 k hk⟩))).2.1
/-- what is left in each picking of a plan that is tried -/
def leftP (S : Nat → Int) (Y : Nat → Nat → Int) (j : Nat) (i : Nat) : Int := S i - sumN (fun t => Y t i) j
/-- a plan whose lots were taken one by one brings no more than is told -/
theorem tried_ok {st : St} (hst : st.ok) {m : Nat} {Y : Nat → Nat → Int} (hm : (m : Int) ≤ st.lots) (hY : ∀ j, j < m → ∀ i, i < st.n → 0 ≤ Y j i) (hs : ∀ i, i < st.n → sumN (fun j => Y j i) m ≤ (st.P i).s) :
    ∃ v, st.earnsR m (fun j => (st.n, Y j)) = (v, 0) ∧ v ≤ (st.choose st.lots.toNat st.all).2 ∧ 0 ≤ v ∧ v ≤ 10000 := by
  have h4 := hst.n4
  have hle : ∀ j, j < m → ∀ i, i < st.n → Y j i ≤ (st.P i).s := fun j hj i hi => by
    have key : ∀ m, j < m → (∀ t, t < m → 0 ≤ Y t i) → Y j i ≤ sumN (fun t => Y t i) m := by
      intro m
      induction m with
      | zero => intro h; omega
      | succ m ih =>
        intro h hn
        simp only [sumN]
        by_cases e : j = m
        · subst e
          have := sumN_nn (f := fun t => Y t i) (n := j) (fun t ht => hn t (by omega))
          omega
        · have := ih (by omega) (fun t ht => hn t (by omega))
          have := hn m (by omega)
          omega
    have := key m hj (fun t ht => hY t ht i hi)
    have := hs i hi
    omega
  have he : st.earnsErr m (fun j => (st.n, Y j)) = 0 := by
    unfold St.earnsErr
    rw [if_neg (by simp [St.check_ok.2 hst]), if_neg (by omega)]
    have hf : firstErr (fun j => st.lotErr st.n (Y j)) m = 0 := firstErr_zero (fun j hj => by
      unfold St.lotErr
      rw [if_neg (by simp), if_neg]
      rw [allN_iff.2 (fun k hk => by
        have h1 := hY j hj k hk
        have h2 := hle j hj k hk
        simp [inB]; omega)]
      decide)
    dsimp only
    rw [hf, if_neg (by simp), if_neg]
    rw [allN_iff.2 (fun p hp => by
      have := hs p hp
      exact decide_eq_true (p := sumN (fun j => Y j p) m ≤ (st.P p).s) this)]
    decide
  refine ⟨_, by unfold St.earnsR; rw [he]; rfl, ?_, ?_, ?_⟩
  · dsimp only
    refine St.plan_le hst m st.lots.toNat (fun j => bagOf (Y j) st.n) st.all (St.all_self hst) (by omega) (fun j hj p hp => ?_) (fun p hp => ?_)
    · by_cases hpn : p < st.n
      · rw [bagOf_at hpn hp]; exact hY j hj p hpn
      · rw [bagOf_off hpn]; exact Int.le_refl _
    · rw [st.all_at p hp]
      split
      · rename_i hpn
        have := hs p hpn
        rw [sumN_congr (g := fun j => Y j p) (fun j hj => bagOf_at hpn hp)]
        exact this
      · rename_i hpn
        rw [sumN_zero (fun j hj => bagOf_off hpn)]
        exact Int.le_refl _
  · exact sumN_nn (fun j hj => (St.brings_bd hst (tried_in hst (hY j hj) (hle j hj))).1)
  · have h3 := hst.l3
    have := sumN_bd2 (fun j => st.brings (bagOf (Y j) st.n)) m 2400 (fun j hj => St.brings_bd hst (tried_in hst (hY j hj) (hle j hj)))
    dsimp only
    omega
end Go.Proofs.Ytegmomappbehcaa

set_option linter.unusedSimpArgs false
set_option linter.unusedVariables false
namespace Go.Proofs.Ytegmomappbehcaa

theorem first_spec {st : St} {x : Bag} : ∀ r i, i ≤ st.firstFrom x r i ∧ st.firstFrom x r i ≤ i + r ∧ (st.firstFrom x r i < i + r → st.has x (st.G (st.firstFrom x r i)) = true) ∧ ∀ j, i ≤ j → j < st.firstFrom x r i → st.has x (st.G j) = false
  | 0, i => ⟨Nat.le_refl _, Nat.le_refl _, fun h => absurd h (Nat.lt_irrefl _), fun j h1 h2 => absurd h2 (by show ¬ j < i; omega)⟩
  | r + 1, i => by
    unfold St.firstFrom
    by_cases h : st.has x (st.G i) = true
    · rw [if_pos h]
      exact ⟨Nat.le_refl _, by omega, fun _ => h, fun j h1 h2 => by omega⟩
    · rw [if_neg h]
      obtain ⟨h1, h2, h3, h4⟩ := first_spec (st := st) (x := x) r (i + 1)
      refine ⟨by omega, by omega, fun hh => h3 (by omega), fun j g1 g2 => ?_⟩
      by_cases e : j = i
      · subst e; simpa using h
      · exact h4 j (by omega) g2
/-- a greater share of foul sacks holds what a smaller one does -/
theorem has_mono {st : St} {x : Bag} {g g' : Gd} (h : g.foul ≤ g'.foul) (hx : st.has x g = true) : st.has x g' = true := by
  unfold St.has at hx ⊢
  simp only [Bool.and_eq_true, decide_eq_true_iff] at hx ⊢
  refine ⟨hx.1, ?_⟩
  have := Int.mul_le_mul_of_nonneg_right h (Int.le_of_lt hx.1)
  omega
theorem most_key {st : St} {g : Gd} : ∀ (l : List Bag) (o : Bag), (l.foldl (st.mostStep g) o = o ∨ st.has (l.foldl (st.mostStep g) o) g = true) ∧ o.size ≤ (l.foldl (st.mostStep g) o).size ∧ ∀ b, b ∈ l → st.has b g = true → b.size ≤ (l.foldl (st.mostStep g) o).size
  | [], o => ⟨.inl rfl, Int.le_refl _, fun b hb => by cases hb⟩
  | c :: l, o => by
    simp only [List.foldl_cons]
    obtain ⟨h1, h2, h3⟩ := most_key (st := st) (g := g) l (st.mostStep g o c)
    have hs : (st.mostStep g o c = o ∨ st.has (st.mostStep g o c) g = true) ∧ o.size ≤ (st.mostStep g o c).size ∧ (st.has c g = true → c.size ≤ (st.mostStep g o c).size) := by
      unfold St.mostStep
      split
      · rename_i h
        simp only [Bool.and_eq_true, decide_eq_true_iff] at h
        exact ⟨.inr h.2, by omega, fun _ => Int.le_refl _⟩
      · rename_i h
        simp only [Bool.and_eq_true, decide_eq_true_iff, not_and] at h
        refine ⟨.inl rfl, Int.le_refl _, fun hc => ?_⟩
        by_cases e : o.size < c.size
        · exact absurd hc (h e)
        · omega
    refine ⟨?_, by omega, fun b hb hh => ?_⟩
    · rcases h1 with h1 | h1
      · rw [h1]
        exact hs.1
      · exact .inr h1
    · rcases List.mem_cons.1 hb with rfl | hb
      · have := hs.2.2 hh
        omega
      · exact h3 b hb hh
/-- the most of a grade: none that has it is greater -/
theorem most_is {st : St} {g : Gd} : (st.most g = bagZ ∨ st.has (st.most g) g = true) ∧ ∀ b, b.in_ st.all → st.has b g = true → b.size ≤ (st.most g).size :=
  ⟨(most_key (st := st) (g := g) (bagsOf st.all) bagZ).1, fun b hb => (most_key (st := st) (g := g) (bagsOf st.all) bagZ).2.2 b (mem_bagsOf.2 hb)⟩
theorem most_in {st : St} (hst : st.ok) {g : Gd} : (st.most g).in_ st.all := St.mostOf_in hst (fun b hb => mem_bagsOf.1 hb)
/-- a wider grade has no smaller most -/
theorem most_mono {st : St} (hst : st.ok) {g g' : Gd} (h : g.foul ≤ g'.foul) : (st.most g).size ≤ (st.most g').size := by
  rcases (most_is (st := st) (g := g)).1 with e | e
  · rw [e]
    have := (most_key (st := st) (g := g') (bagsOf st.all) bagZ).2.1
    exact this
  · exact (most_is (st := st) (g := g')).2 _ (most_in hst) (has_mono h e)
/-- sacks to spare -/
theorem spare_is {st : St} {x : Bag} {p : Nat} {g : Gd} : ∀ k, (-1 ≤ st.spareN x p g k ∧ st.spareN x p g k ≤ k) ∧ (0 ≤ st.spareN x p g k → st.has (x.set p (x.at p + st.spareN x p g k)) g = true) ∧ ∀ e : Nat, e ≤ k → st.spareN x p g k < (e : Int) → st.has (x.set p (x.at p + (e : Int))) g = false
  | 0 => by
    unfold St.spareN
    by_cases h : st.has (x.set p (x.at p)) g = true
    · rw [if_pos h]
      refine ⟨by omega, fun _ => by rw [Int.add_zero]; exact h, fun e h1 h2 => by omega⟩
    · rw [if_neg h]
      refine ⟨by omega, fun h => by omega, fun e h1 h2 => ?_⟩
      obtain rfl : e = 0 := by omega
      simpa using h
  | k + 1 => by
    unfold St.spareN
    by_cases h : st.has (x.set p (x.at p + ((k + 1 : Nat) : Int))) g = true
    · rw [if_pos h]
      exact ⟨by omega, fun _ => h, fun e h1 h2 => by omega⟩
    · rw [if_neg h]
      obtain ⟨h1, h2, h3⟩ := spare_is (st := st) (x := x) (p := p) (g := g) k
      refine ⟨by omega, h2, fun e g1 g2 => ?_⟩
      by_cases he : e = k + 1
      · subst he; simpa using h
      · exact h3 e (by omega) g2
theorem foul_le {st : St} (hst : st.ok) {i : Nat} : ∀ d, i + d < st.m → (st.G i).foul ≤ (st.G (i + d)).foul
  | 0, _ => Int.le_refl _
  | d + 1, h => by
    have h1 := foul_le hst (i := i) d (by omega)
    have h2 := (hst.up (i + d) (by omega)).1
    show _ ≤ (st.G (i + d + 1)).foul
    omega
/-- it surely has a grade: just where the first that it has is no worse -/
theorem sure_fits {st : St} (hst : st.ok) {x : Bag} {k : Nat} (hk : k < st.m) : (0 ≤ st.sureI x ∧ st.sureI x ≤ (k : Int)) ↔ st.has x (st.G k) = true := by
  obtain ⟨h1, h2, h3, h4⟩ := first_spec (st := st) (x := x) st.m 0
  have e : st.firstFrom x st.m 0 = st.first x := rfl
  rw [e] at h2 h3 h4
  unfold St.sureI
  constructor
  · intro h
    split at h
    · rename_i hf
      obtain ⟨d, hd⟩ : ∃ d, k = st.first x + d := ⟨k - st.first x, by omega⟩
      rw [hd]
      exact has_mono (foul_le hst d (by omega)) (h3 (by omega))
    · omega
  · intro h
    have hf : ¬ k < st.first x := fun hlt => by
      have := h4 k (Nat.zero_le _) hlt
      rw [h] at this
      cases this
    rw [if_pos (by omega)]
    omega
theorem sure_bd {st : St} {x : Bag} : -1 ≤ st.sureI x ∧ st.sureI x < max 1 (st.m : Int) := by
  unfold St.sureI
  split <;> omega
/-- the bag of a lot with one number raised -/
theorem bag_raise {X : Nat → Int} {n k : Nat} (hk : k < n) (h4 : n ≤ 4) (e : Int) : bagOf (fun i => if i = k then X i + e else X i) n = (bagOf X n).set k ((bagOf X n).at k + e) := by
  have h1 : n = 1 ∨ n = 2 ∨ n = 3 ∨ n = 4 := by omega
  have h2 : k = 0 ∨ k = 1 ∨ k = 2 ∨ k = 3 := by omega
  rcases h1 with rfl | rfl | rfl | rfl <;> rcases h2 with rfl | rfl | rfl | rfl <;> first | (exfalso; omega) | (simp [bagOf, bagK, Bag.set, Bag.at]; done)
end Go.Proofs.Ytegmomappbehcaa

set_option linter.unusedSimpArgs false
set_option linter.unusedVariables false
namespace Go.Proofs.Ytegmomappbehcaa
open Go.RowKit Go.Shelf

/-- the error of an opening -/
def St.openErr (st : St) (p q f : Int) : Int :=
  if st.check ≠ 0 then st.check else if inB p 0 (st.n - 1) = false then 2
  else if inB q 0 ((st.P p.toNat).s - (st.P p.toNat).o) = false ∨ inB f 0 q = false then 4 else (st.more p.toNat q f).check
/-- a store with the error ahead -/
def emptyS (e : Int) : Value := .tuple #[stV none 0 0 none 0 0 0, .int .i64 e]
/-- what an opening gives -/
def OpenPost (st : St) (p q f : Int) (lo : Nat) (W : World) (e : Ending) (W' : World) : Prop :=
  Below W.heap.size W W' ∧ ((st.openErr p q f = 0 ∧ ∃ pA pc gA gc, e = .returned (.tuple #[stV pA st.n pc gA st.m gc st.lots, .int .i64 0]) ∧ OwnPk W' lo pA st.n (st.more p.toNat q f).P ∧ OwnGd W' lo gA st.m st.G ∧ st.n ≤ pc ∧ st.m ≤ gc) ∨
    (st.openErr p q f ≠ 0 ∧ e = .returned (emptyS (st.openErr p q f))))

theorem in_bel_o (n lo hi : Int) (w : World) : Calls Try.prog 77 #[.int .i64 n, .int .i64 lo, .int .i64 hi] w fun e w' => e = .returned (.bool (inB n lo hi)) ∧ Below w.heap.size w w' :=
  (in_any n lo hi w).mono fun _ _ ⟨h, h'⟩ => ⟨h, h' ▸ Below.refl _ _⟩

set_option maxRecDepth 100000 in
set_option maxHeartbeats 4000000 in
/-- lot.Open -/
theorem Open_any (st : St) (B : Nat) (pA gA : Option Addr) (pc gc : Nat) (p q f : Int) (W : World) (hs : StRow W B st pA pc gA gc) :
    Calls Try.prog 56 #[stV pA st.n pc gA st.m gc st.lots, .int .i64 p, .int .i64 q, .int .i64 f] W (OpenPost st p q f W.heap.size W) := by
  have HS := Lib.hid hs
  have hB := hs.lt
  clear hs
  go_enter Try.func56, Try.ntmps56
  go_wp2_with fail
  refine (opened_st st B pA gA pc gc _ (HS.out.later (by repeat (first | (with_reducible exact Below.refl _ _) | (with_reducible refine Below.drew ?_) | (with_reducible refine below_drewN ?_ _) | ((with_reducible refine below_alloc ?_ ?_ _); · (first | exact Nat.le_refl _ | omega | (simp; done) | (simp; omega) | (simp at *; omega))) | ((with_reducible refine below_set ?_ ?_ _); · (first | exact Nat.le_refl _ | omega | (simp; done) | (simp; omega) | (simp at *; omega))) | ((with_reducible refine below_via (by with_reducible assumption) ?_ ?_); · (first | exact Nat.le_refl _ | omega | (simp; done) | (simp; omega) | (simp at *; omega))))))).mono ?_
  rintro e w1 ⟨hb1, ⟨hok, db, rfl, hD, hdb⟩ | ⟨hne, rfl⟩⟩
  · obtain ⟨hc1, hf1⟩ := bcell hb1; have hz1 := hb1.size; (try simp only [World.size_drew, World.heap_drewN, World.size_alloc] at hz1)
    have HO := Lib.hid hok
    have HD := Lib.hid hD
    have hc0 : Hid (st.check = 0) := Lib.hid (St.check_ok.2 hok)
    have z0 : w1.cell? ⟨W.heap.size + 1, 0, none⟩ = some (.slice none 0 0) := (by repeat (first | (with_reducible assumption) | (simp; done) | (with_reducible refine cell_drew_of ?_) | (with_reducible refine cell_drewN_of ?_) | (with_reducible refine cell_below_of (by with_reducible assumption) ?_) | ((with_reducible refine cell_new_of ?_ ?_) <;> (first | (with_reducible rfl) | (simp; done))) | ((with_reducible refine fro_new_of ?_) <;> (first | (with_reducible rfl) | (simp; done))) | (with_reducible refine cell_alloc_of _ ?_) | (with_reducible refine cell_set_of _ (by (first | exact Nat.le_refl _ | omega | (simp; done) | (simp; omega) | (simp at *; omega))) ?_) | (with_reducible refine fro_drew_of ?_) | (with_reducible refine fro_drewN_of ?_) | (with_reducible refine fro_below_of (by with_reducible assumption) (by (first | exact Nat.le_refl _ | omega | (simp; done) | (simp; omega) | (simp at *; omega))) ?_) | (with_reducible refine fro_alloc_of _ (by (first | exact Nat.le_refl _ | omega | (simp; done) | (simp; omega) | (simp at *; omega))) ?_) | (with_reducible refine fro_set_of _ ?_)))
    have z1 : w1.cell? ⟨W.heap.size + 1, 1, none⟩ = some (.slice none 0 0) := (by repeat (first | (with_reducible assumption) | (simp; done) | (with_reducible refine cell_drew_of ?_) | (with_reducible refine cell_drewN_of ?_) | (with_reducible refine cell_below_of (by with_reducible assumption) ?_) | ((with_reducible refine cell_new_of ?_ ?_) <;> (first | (with_reducible rfl) | (simp; done))) | ((with_reducible refine fro_new_of ?_) <;> (first | (with_reducible rfl) | (simp; done))) | (with_reducible refine cell_alloc_of _ ?_) | (with_reducible refine cell_set_of _ (by (first | exact Nat.le_refl _ | omega | (simp; done) | (simp; omega) | (simp at *; omega))) ?_) | (with_reducible refine fro_drew_of ?_) | (with_reducible refine fro_drewN_of ?_) | (with_reducible refine fro_below_of (by with_reducible assumption) (by (first | exact Nat.le_refl _ | omega | (simp; done) | (simp; omega) | (simp at *; omega))) ?_) | (with_reducible refine fro_alloc_of _ (by (first | exact Nat.le_refl _ | omega | (simp; done) | (simp; omega) | (simp at *; omega))) ?_) | (with_reducible refine fro_set_of _ ?_)))
    have z2 : w1.cell? ⟨W.heap.size + 1, 2, none⟩ = some (.int .i64 0) := (by repeat (first | (with_reducible assumption) | (simp; done) | (with_reducible refine cell_drew_of ?_) | (with_reducible refine cell_drewN_of ?_) | (with_reducible refine cell_below_of (by with_reducible assumption) ?_) | ((with_reducible refine cell_new_of ?_ ?_) <;> (first | (with_reducible rfl) | (simp; done))) | ((with_reducible refine fro_new_of ?_) <;> (first | (with_reducible rfl) | (simp; done))) | (with_reducible refine cell_alloc_of _ ?_) | (with_reducible refine cell_set_of _ (by (first | exact Nat.le_refl _ | omega | (simp; done) | (simp; omega) | (simp at *; omega))) ?_) | (with_reducible refine fro_drew_of ?_) | (with_reducible refine fro_drewN_of ?_) | (with_reducible refine fro_below_of (by with_reducible assumption) (by (first | exact Nat.le_refl _ | omega | (simp; done) | (simp; omega) | (simp at *; omega))) ?_) | (with_reducible refine fro_alloc_of _ (by (first | exact Nat.le_refl _ | omega | (simp; done) | (simp; omega) | (simp at *; omega))) ?_) | (with_reducible refine fro_set_of _ ?_)))
    have y0 : w1.frozen? ⟨W.heap.size + 1, 0, none⟩ = false := (by repeat (first | (with_reducible assumption) | (simp; done) | (with_reducible refine cell_drew_of ?_) | (with_reducible refine cell_drewN_of ?_) | (with_reducible refine cell_below_of (by with_reducible assumption) ?_) | ((with_reducible refine cell_new_of ?_ ?_) <;> (first | (with_reducible rfl) | (simp; done))) | ((with_reducible refine fro_new_of ?_) <;> (first | (with_reducible rfl) | (simp; done))) | (with_reducible refine cell_alloc_of _ ?_) | (with_reducible refine cell_set_of _ (by (first | exact Nat.le_refl _ | omega | (simp; done) | (simp; omega) | (simp at *; omega))) ?_) | (with_reducible refine fro_drew_of ?_) | (with_reducible refine fro_drewN_of ?_) | (with_reducible refine fro_below_of (by with_reducible assumption) (by (first | exact Nat.le_refl _ | omega | (simp; done) | (simp; omega) | (simp at *; omega))) ?_) | (with_reducible refine fro_alloc_of _ (by (first | exact Nat.le_refl _ | omega | (simp; done) | (simp; omega) | (simp at *; omega))) ?_) | (with_reducible refine fro_set_of _ ?_)))
    have y1 : w1.frozen? ⟨W.heap.size + 1, 1, none⟩ = false := (by repeat (first | (with_reducible assumption) | (simp; done) | (with_reducible refine cell_drew_of ?_) | (with_reducible refine cell_drewN_of ?_) | (with_reducible refine cell_below_of (by with_reducible assumption) ?_) | ((with_reducible refine cell_new_of ?_ ?_) <;> (first | (with_reducible rfl) | (simp; done))) | ((with_reducible refine fro_new_of ?_) <;> (first | (with_reducible rfl) | (simp; done))) | (with_reducible refine cell_alloc_of _ ?_) | (with_reducible refine cell_set_of _ (by (first | exact Nat.le_refl _ | omega | (simp; done) | (simp; omega) | (simp at *; omega))) ?_) | (with_reducible refine fro_drew_of ?_) | (with_reducible refine fro_drewN_of ?_) | (with_reducible refine fro_below_of (by with_reducible assumption) (by (first | exact Nat.le_refl _ | omega | (simp; done) | (simp; omega) | (simp at *; omega))) ?_) | (with_reducible refine fro_alloc_of _ (by (first | exact Nat.le_refl _ | omega | (simp; done) | (simp; omega) | (simp at *; omega))) ?_) | (with_reducible refine fro_set_of _ ?_)))
    have y2 : w1.frozen? ⟨W.heap.size + 1, 2, none⟩ = false := (by repeat (first | (with_reducible assumption) | (simp; done) | (with_reducible refine cell_drew_of ?_) | (with_reducible refine cell_drewN_of ?_) | (with_reducible refine cell_below_of (by with_reducible assumption) ?_) | ((with_reducible refine cell_new_of ?_ ?_) <;> (first | (with_reducible rfl) | (simp; done))) | ((with_reducible refine fro_new_of ?_) <;> (first | (with_reducible rfl) | (simp; done))) | (with_reducible refine cell_alloc_of _ ?_) | (with_reducible refine cell_set_of _ (by (first | exact Nat.le_refl _ | omega | (simp; done) | (simp; omega) | (simp at *; omega))) ?_) | (with_reducible refine fro_drew_of ?_) | (with_reducible refine fro_drewN_of ?_) | (with_reducible refine fro_below_of (by with_reducible assumption) (by (first | exact Nat.le_refl _ | omega | (simp; done) | (simp; omega) | (simp at *; omega))) ?_) | (with_reducible refine fro_alloc_of _ (by (first | exact Nat.le_refl _ | omega | (simp; done) | (simp; omega) | (simp at *; omega))) ?_) | (with_reducible refine fro_set_of _ ?_)))
    have s0 : w1.cell? ⟨W.heap.size, 0, none⟩ = some (.slice pA st.n pc) := (by repeat (first | (with_reducible assumption) | (simp; done) | (with_reducible refine cell_drew_of ?_) | (with_reducible refine cell_drewN_of ?_) | (with_reducible refine cell_below_of (by with_reducible assumption) ?_) | ((with_reducible refine cell_new_of ?_ ?_) <;> (first | (with_reducible rfl) | (simp; done))) | ((with_reducible refine fro_new_of ?_) <;> (first | (with_reducible rfl) | (simp; done))) | (with_reducible refine cell_alloc_of _ ?_) | (with_reducible refine cell_set_of _ (by (first | exact Nat.le_refl _ | omega | (simp; done) | (simp; omega) | (simp at *; omega))) ?_) | (with_reducible refine fro_drew_of ?_) | (with_reducible refine fro_drewN_of ?_) | (with_reducible refine fro_below_of (by with_reducible assumption) (by (first | exact Nat.le_refl _ | omega | (simp; done) | (simp; omega) | (simp at *; omega))) ?_) | (with_reducible refine fro_alloc_of _ (by (first | exact Nat.le_refl _ | omega | (simp; done) | (simp; omega) | (simp at *; omega))) ?_) | (with_reducible refine fro_set_of _ ?_)))
    have hy : Hid (Below W.heap.size W w1) := Lib.hid (by repeat (first | (with_reducible exact Below.refl _ _) | (with_reducible refine Below.drew ?_) | (with_reducible refine below_drewN ?_ _) | ((with_reducible refine below_alloc ?_ ?_ _); · (first | exact Nat.le_refl _ | omega | (simp; done) | (simp; omega) | (simp at *; omega))) | ((with_reducible refine below_set ?_ ?_ _); · (first | exact Nat.le_refl _ | omega | (simp; done) | (simp; omega) | (simp at *; omega))) | ((with_reducible refine below_via (by with_reducible assumption) ?_ ?_); · (first | exact Nat.le_refl _ | omega | (simp; done) | (simp; omega) | (simp at *; omega)))))
    clear hc1 hf1 hb1 hok hD
    cases hin : inB p 0 (st.n - 1) with
    | false =>
      have HR : Hid (st.openErr p q f = 2) := Lib.hid (by unfold St.openErr; rw [if_neg (by simp [hc0.out]), if_pos hin])
      have hyo := hy.out
      go_wp2_with fail
      refine (picking_any st HO.out db p _ (HD.out.at (by omega))).mono ?_
      rintro e w2 ⟨rfl, rfl⟩
      go_wp2_with fail
      exact bodyPost_ret (v := emptyS 2) (by simp [results, Try.results56, go_sem, z0, z1, z2]; try rfl) rfl ⟨(by repeat (first | (with_reducible exact Below.refl _ _) | (with_reducible refine Below.drew ?_) | (with_reducible refine below_drewN ?_ _) | ((with_reducible refine below_alloc ?_ ?_ _); · (first | exact Nat.le_refl _ | omega | (simp; done) | (simp; omega) | (simp at *; omega))) | ((with_reducible refine below_set ?_ ?_ _); · (first | exact Nat.le_refl _ | omega | (simp; done) | (simp; omega) | (simp at *; omega))) | ((with_reducible refine below_via (by with_reducible assumption) ?_ ?_); · (first | exact Nat.le_refl _ | omega | (simp; done) | (simp; omega) | (simp at *; omega))))), .inr ⟨by rw [HR.out]; decide, by rw [HR.out]⟩⟩
    | true =>
      have hr : 0 ≤ p ∧ p ≤ (st.n : Int) - 1 := by simpa [inB] using hin
      obtain ⟨k, rfl⟩ := Int.eq_ofNat_of_zero_le hr.1
      have HIN := Lib.hid hin
      have hk : k < st.n := by omega
      have hk0 : (0 : Int) ≤ (k : Int) := by omega
      have hk1 : (k : Int) < (st.n : Int) := by omega
      obtain ⟨b, o, rfl, hb', c0, c1, c2, c3⟩ := (HS.out.p.below (hy.out.mono hB)) k hk
      have hrg := Lib.hid (HO.out.pk k hk)
      have h1 := hrg.out.1
      have h3 := hrg.out.2.2.1
      have hyo := hy.out
      go_wp2_with fail
      refine (picking_any st HO.out db k _ (HD.out.at (by omega))).mono ?_
      rintro e w2 ⟨rfl, rfl⟩
      have HZ := Lib.hid (show St0 w1 (W.heap.size + 1) from ⟨⟨z0, z1, z2⟩, y0, y1, y2⟩)
      go_wp2_with fail
      have x0 := cell_regrown s0
      have x1 := cell_regrown c0
      have x2 := cell_regrown c2
      clear c0 c1 c2 c3 s0 z0 z1 z2 y0 y1 y2 hyo
      have eS : IntKind.i64.wrap ((st.P k).s - (st.P k).o) = (st.P k).s - (st.P k).o := IntWalk.i64_in _ (by omega)
      cases j1 : inB q 0 ((st.P k).s - (st.P k).o) with
      | false =>
        have HR : Hid (st.openErr k q f = 4) := Lib.hid (by unfold St.openErr; rw [if_neg (by simp [hc0.out]), if_neg (by rw [HIN.out]; decide), if_pos (.inl j1)])
        clear hr
        refine region_qbw (by kernel_rfl) (by kernel_rfl) ?_
        repeat (first | go_big_quiet_step ((go_at_call 77; exact Calls.regrown_of (in_bel_o _ _ _ _))) | quiet_step ((go_at_call 77; exact Calls.regrown_of (in_bel_o _ _ _ _))))
        refine wpQuiet_nil ?_; intro wq hbq
        have HYQ := Lib.hid (hy.out.trans (hbq.mono hy.out.size))
        have HZQ := Lib.hid (HZ.out.same (hbq.block _ (by omega)))
        have HDQ := Lib.hid (HD.out.below hbq (by omega) HD.out.lt hbq.size)
        have hsq : W.heap.size + 1 + 1 ≤ wq.heap.size := Nat.le_trans hz1 hbq.size
        clear x0 x1 x2 hbq HD HZ hy
        obtain ⟨⟨z0, z1, z2⟩, y0, y1, y2⟩ := HZQ.out
        have hyo := HYQ.out
        rw [j1]
        go_wp2_with fail
        exact bodyPost_ret (v := emptyS 4) (by simp [results, Try.results56, go_sem, z0, z1, z2]; try rfl) rfl ⟨(by repeat (first | (with_reducible exact Below.refl _ _) | (with_reducible refine Below.drew ?_) | (with_reducible refine below_drewN ?_ _) | ((with_reducible refine below_alloc ?_ ?_ _); · (first | exact Nat.le_refl _ | omega | (simp; done) | (simp; omega) | (simp at *; omega))) | ((with_reducible refine below_set ?_ ?_ _); · (first | exact Nat.le_refl _ | omega | (simp; done) | (simp; omega) | (simp at *; omega))) | ((with_reducible refine below_via (by with_reducible assumption) ?_ ?_); · (first | exact Nat.le_refl _ | omega | (simp; done) | (simp; omega) | (simp at *; omega))))), .inr ⟨by rw [HR.out]; decide, by rw [HR.out]⟩⟩
      | true =>
        cases j2 : inB f 0 q with
        | false =>
          have HR : Hid (st.openErr k q f = 4) := Lib.hid (by unfold St.openErr; rw [if_neg (by simp [hc0.out]), if_neg (by rw [HIN.out]; decide), if_pos (.inr j2)])
          clear hr
          refine region_qbw (by kernel_rfl) (by kernel_rfl) ?_
          repeat (first | go_big_quiet_step ((go_at_call 77; exact Calls.regrown_of (in_bel_o _ _ _ _))) | quiet_step ((go_at_call 77; exact Calls.regrown_of (in_bel_o _ _ _ _))))
          refine wpQuiet_nil ?_; intro wq hbq
          have HYQ := Lib.hid (hy.out.trans (hbq.mono hy.out.size))
          have HZQ := Lib.hid (HZ.out.same (hbq.block _ (by omega)))
          have HDQ := Lib.hid (HD.out.below hbq (by omega) HD.out.lt hbq.size)
          have hsq : W.heap.size + 1 + 1 ≤ wq.heap.size := Nat.le_trans hz1 hbq.size
          clear x0 x1 x2 hbq HD HZ hy
          obtain ⟨⟨z0, z1, z2⟩, y0, y1, y2⟩ := HZQ.out
          have hyo := HYQ.out
          rw [j1]
          rw [j2]
          go_wp2_with fail
          exact bodyPost_ret (v := emptyS 4) (by simp [results, Try.results56, go_sem, z0, z1, z2]; try rfl) rfl ⟨(by repeat (first | (with_reducible exact Below.refl _ _) | (with_reducible refine Below.drew ?_) | (with_reducible refine below_drewN ?_ _) | ((with_reducible refine below_alloc ?_ ?_ _); · (first | exact Nat.le_refl _ | omega | (simp; done) | (simp; omega) | (simp at *; omega))) | ((with_reducible refine below_set ?_ ?_ _); · (first | exact Nat.le_refl _ | omega | (simp; done) | (simp; omega) | (simp at *; omega))) | ((with_reducible refine below_via (by with_reducible assumption) ?_ ?_); · (first | exact Nat.le_refl _ | omega | (simp; done) | (simp; omega) | (simp at *; omega))))), .inr ⟨by rw [HR.out]; decide, by rw [HR.out]⟩⟩
        | true =>
          have HR : Hid (st.openErr k q f = (st.more k q f).check) := Lib.hid (by unfold St.openErr; rw [if_neg (by simp [hc0.out]), if_neg (by rw [HIN.out]; decide), if_neg (by simp [j1, j2])]; rfl)
          have hq : 0 ≤ q ∧ q ≤ (st.P k).s - (st.P k).o := by simpa [inB] using j1
          have hf : 0 ≤ f ∧ f ≤ q := by simpa [inB] using j2
          have HQ := Lib.hid hq
          have HF := Lib.hid hf
          have h1' := Lib.hid h1
          have h3' := Lib.hid h3
          clear hr hq hf h1 h3
          refine region_qbw (by kernel_rfl) (by kernel_rfl) ?_
          repeat (first | go_big_quiet_step ((go_at_call 77; exact Calls.regrown_of (in_bel_o _ _ _ _))) | quiet_step ((go_at_call 77; exact Calls.regrown_of (in_bel_o _ _ _ _))))
          refine wpQuiet_nil ?_; intro wq hbq
          have HYQ := Lib.hid (hy.out.trans (hbq.mono hy.out.size))
          have HZQ := Lib.hid (HZ.out.same (hbq.block _ (by omega)))
          have HDQ := Lib.hid (HD.out.below hbq (by omega) HD.out.lt hbq.size)
          have hsq : W.heap.size + 1 + 1 ≤ wq.heap.size := Nat.le_trans hz1 hbq.size
          clear x0 x1 x2 hbq HD HZ hy
          obtain ⟨⟨z0, z1, z2⟩, y0, y1, y2⟩ := HZQ.out
          have hyo := HYQ.out
          rw [j1]
          rw [j2]
          go_wp2_with fail
          refine (more_any st HO.out db k q f hk (by have := HQ.out; have := h1'.out; have := h3'.out; omega) (by have := HQ.out; have := HF.out; have := h1'.out; have := h3'.out; omega) _ (HDQ.out.at (by omega))).mono ?_
          rintro e w3 ⟨hb3, pB, pc3, gB, gc3, rfl, hop, hog, hpc3, hgc3⟩
          obtain ⟨hc3, hf3⟩ := bcell hb3; have hz3 := hb3.size; (try simp only [World.size_drew, World.heap_drewN, World.size_alloc] at hz3)
          have b0 : w3.cell? ⟨W.heap.size + 1, 0, none⟩ = some (.slice none 0 0) := (by repeat (first | (with_reducible assumption) | (simp; done) | (with_reducible refine cell_drew_of ?_) | (with_reducible refine cell_drewN_of ?_) | (with_reducible refine cell_below_of (by with_reducible assumption) ?_) | ((with_reducible refine cell_new_of ?_ ?_) <;> (first | (with_reducible rfl) | (simp; done))) | ((with_reducible refine fro_new_of ?_) <;> (first | (with_reducible rfl) | (simp; done))) | (with_reducible refine cell_alloc_of _ ?_) | (with_reducible refine cell_set_of _ (by (first | exact Nat.le_refl _ | omega | (simp; done) | (simp; omega) | (simp at *; omega))) ?_) | (with_reducible refine fro_drew_of ?_) | (with_reducible refine fro_drewN_of ?_) | (with_reducible refine fro_below_of (by with_reducible assumption) (by (first | exact Nat.le_refl _ | omega | (simp; done) | (simp; omega) | (simp at *; omega))) ?_) | (with_reducible refine fro_alloc_of _ (by (first | exact Nat.le_refl _ | omega | (simp; done) | (simp; omega) | (simp at *; omega))) ?_) | (with_reducible refine fro_set_of _ ?_)))
          have b1 : w3.cell? ⟨W.heap.size + 1, 1, none⟩ = some (.slice none 0 0) := (by repeat (first | (with_reducible assumption) | (simp; done) | (with_reducible refine cell_drew_of ?_) | (with_reducible refine cell_drewN_of ?_) | (with_reducible refine cell_below_of (by with_reducible assumption) ?_) | ((with_reducible refine cell_new_of ?_ ?_) <;> (first | (with_reducible rfl) | (simp; done))) | ((with_reducible refine fro_new_of ?_) <;> (first | (with_reducible rfl) | (simp; done))) | (with_reducible refine cell_alloc_of _ ?_) | (with_reducible refine cell_set_of _ (by (first | exact Nat.le_refl _ | omega | (simp; done) | (simp; omega) | (simp at *; omega))) ?_) | (with_reducible refine fro_drew_of ?_) | (with_reducible refine fro_drewN_of ?_) | (with_reducible refine fro_below_of (by with_reducible assumption) (by (first | exact Nat.le_refl _ | omega | (simp; done) | (simp; omega) | (simp at *; omega))) ?_) | (with_reducible refine fro_alloc_of _ (by (first | exact Nat.le_refl _ | omega | (simp; done) | (simp; omega) | (simp at *; omega))) ?_) | (with_reducible refine fro_set_of _ ?_)))
          have b2 : w3.cell? ⟨W.heap.size + 1, 2, none⟩ = some (.int .i64 0) := (by repeat (first | (with_reducible assumption) | (simp; done) | (with_reducible refine cell_drew_of ?_) | (with_reducible refine cell_drewN_of ?_) | (with_reducible refine cell_below_of (by with_reducible assumption) ?_) | ((with_reducible refine cell_new_of ?_ ?_) <;> (first | (with_reducible rfl) | (simp; done))) | ((with_reducible refine fro_new_of ?_) <;> (first | (with_reducible rfl) | (simp; done))) | (with_reducible refine cell_alloc_of _ ?_) | (with_reducible refine cell_set_of _ (by (first | exact Nat.le_refl _ | omega | (simp; done) | (simp; omega) | (simp at *; omega))) ?_) | (with_reducible refine fro_drew_of ?_) | (with_reducible refine fro_drewN_of ?_) | (with_reducible refine fro_below_of (by with_reducible assumption) (by (first | exact Nat.le_refl _ | omega | (simp; done) | (simp; omega) | (simp at *; omega))) ?_) | (with_reducible refine fro_alloc_of _ (by (first | exact Nat.le_refl _ | omega | (simp; done) | (simp; omega) | (simp at *; omega))) ?_) | (with_reducible refine fro_set_of _ ?_)))
          have x0 : w3.frozen? ⟨W.heap.size + 1, 0, none⟩ = false := (by repeat (first | (with_reducible assumption) | (simp; done) | (with_reducible refine cell_drew_of ?_) | (with_reducible refine cell_drewN_of ?_) | (with_reducible refine cell_below_of (by with_reducible assumption) ?_) | ((with_reducible refine cell_new_of ?_ ?_) <;> (first | (with_reducible rfl) | (simp; done))) | ((with_reducible refine fro_new_of ?_) <;> (first | (with_reducible rfl) | (simp; done))) | (with_reducible refine cell_alloc_of _ ?_) | (with_reducible refine cell_set_of _ (by (first | exact Nat.le_refl _ | omega | (simp; done) | (simp; omega) | (simp at *; omega))) ?_) | (with_reducible refine fro_drew_of ?_) | (with_reducible refine fro_drewN_of ?_) | (with_reducible refine fro_below_of (by with_reducible assumption) (by (first | exact Nat.le_refl _ | omega | (simp; done) | (simp; omega) | (simp at *; omega))) ?_) | (with_reducible refine fro_alloc_of _ (by (first | exact Nat.le_refl _ | omega | (simp; done) | (simp; omega) | (simp at *; omega))) ?_) | (with_reducible refine fro_set_of _ ?_)))
          have x1 : w3.frozen? ⟨W.heap.size + 1, 1, none⟩ = false := (by repeat (first | (with_reducible assumption) | (simp; done) | (with_reducible refine cell_drew_of ?_) | (with_reducible refine cell_drewN_of ?_) | (with_reducible refine cell_below_of (by with_reducible assumption) ?_) | ((with_reducible refine cell_new_of ?_ ?_) <;> (first | (with_reducible rfl) | (simp; done))) | ((with_reducible refine fro_new_of ?_) <;> (first | (with_reducible rfl) | (simp; done))) | (with_reducible refine cell_alloc_of _ ?_) | (with_reducible refine cell_set_of _ (by (first | exact Nat.le_refl _ | omega | (simp; done) | (simp; omega) | (simp at *; omega))) ?_) | (with_reducible refine fro_drew_of ?_) | (with_reducible refine fro_drewN_of ?_) | (with_reducible refine fro_below_of (by with_reducible assumption) (by (first | exact Nat.le_refl _ | omega | (simp; done) | (simp; omega) | (simp at *; omega))) ?_) | (with_reducible refine fro_alloc_of _ (by (first | exact Nat.le_refl _ | omega | (simp; done) | (simp; omega) | (simp at *; omega))) ?_) | (with_reducible refine fro_set_of _ ?_)))
          have x2 : w3.frozen? ⟨W.heap.size + 1, 2, none⟩ = false := (by repeat (first | (with_reducible assumption) | (simp; done) | (with_reducible refine cell_drew_of ?_) | (with_reducible refine cell_drewN_of ?_) | (with_reducible refine cell_below_of (by with_reducible assumption) ?_) | ((with_reducible refine cell_new_of ?_ ?_) <;> (first | (with_reducible rfl) | (simp; done))) | ((with_reducible refine fro_new_of ?_) <;> (first | (with_reducible rfl) | (simp; done))) | (with_reducible refine cell_alloc_of _ ?_) | (with_reducible refine cell_set_of _ (by (first | exact Nat.le_refl _ | omega | (simp; done) | (simp; omega) | (simp at *; omega))) ?_) | (with_reducible refine fro_drew_of ?_) | (with_reducible refine fro_drewN_of ?_) | (with_reducible refine fro_below_of (by with_reducible assumption) (by (first | exact Nat.le_refl _ | omega | (simp; done) | (simp; omega) | (simp at *; omega))) ?_) | (with_reducible refine fro_alloc_of _ (by (first | exact Nat.le_refl _ | omega | (simp; done) | (simp; omega) | (simp at *; omega))) ?_) | (with_reducible refine fro_set_of _ ?_)))
          have hy3 : Hid (Below W.heap.size W w3) := Lib.hid (by repeat (first | (with_reducible exact Below.refl _ _) | (with_reducible refine Below.drew ?_) | (with_reducible refine below_drewN ?_ _) | ((with_reducible refine below_alloc ?_ ?_ _); · (first | exact Nat.le_refl _ | omega | (simp; done) | (simp; omega) | (simp at *; omega))) | ((with_reducible refine below_set ?_ ?_ _); · (first | exact Nat.le_refl _ | omega | (simp; done) | (simp; omega) | (simp at *; omega))) | ((with_reducible refine below_via (by with_reducible assumption) ?_ ?_); · (first | exact Nat.le_refl _ | omega | (simp; done) | (simp; omega) | (simp at *; omega)))))
          have HOP := Lib.hid hop
          have HOG := Lib.hid hog
          clear hc3 hf3 hb3 hop hog z0 z1 z2 y0 y1 y2 hyo
          have hyo := hy3.out
          go_wp2_with fail
          have hba : Below w3.heap.size w3 (w3.alloc (.cells #[.slice pB st.n pc3, .slice gB st.m gc3, .int .i64 st.lots] 25)) := (by repeat (first | (with_reducible exact Below.refl _ _) | (with_reducible refine Below.drew ?_) | (with_reducible refine below_drewN ?_ _) | ((with_reducible refine below_alloc ?_ ?_ _); · (first | exact Nat.le_refl _ | omega | (simp; done) | (simp; omega) | (simp at *; omega))) | ((with_reducible refine below_set ?_ ?_ _); · (first | exact Nat.le_refl _ | omega | (simp; done) | (simp; omega) | (simp at *; omega))) | ((with_reducible refine below_via (by with_reducible assumption) ?_ ?_); · (first | exact Nat.le_refl _ | omega | (simp; done) | (simp; omega) | (simp at *; omega)))))
          refine (check_any (st.more k q f) pB gB pc3 gc3 _ ((HOP.out.row.below hba).mono hba.size) ((HOG.out.row.below hba).mono hba.size) (by show st.n ≤ 1000; have := HO.out.n4; omega) (by show st.m ≤ 1000; have := HO.out.m4; omega) hpc3 hgc3).mono ?_
          rintro e w4 ⟨rfl, hb4⟩
          have HOP4 := Lib.hid ((HOP.out.later hba).later hb4)
          have HOG4 := Lib.hid ((HOG.out.later hba).later hb4)
          have HB34 := Lib.hid (hba.trans (hb4.mono hba.size))
          have hy4 : Hid (Below W.heap.size W w4) := Lib.hid (hy3.out.trans (HB34.out.mono hy3.out.size))
          have HZ4 := Lib.hid ((show St0 w3 (W.heap.size + 1) from ⟨⟨b0, b1, b2⟩, x0, x1, x2⟩).same (HB34.out.block _ (by omega)))
          have HM : Hid (w4.cell? ⟨w3.heap.size, 0, none⟩ = some (.slice pB st.n pc3) ∧ w4.cell? ⟨w3.heap.size, 1, none⟩ = some (.slice gB st.m gc3) ∧ w4.cell? ⟨w3.heap.size, 2, none⟩ = some (.int .i64 st.lots)) := Lib.hid ⟨cell_below_of hb4 (by (repeat' refine And.intro ?_ ?_) <;> (repeat (first | (with_reducible assumption) | (simp; done) | (with_reducible refine cell_drew_of ?_) | (with_reducible refine cell_drewN_of ?_) | (with_reducible refine cell_below_of (by with_reducible assumption) ?_) | ((with_reducible refine cell_new_of ?_ ?_) <;> (first | (with_reducible rfl) | (simp; done))) | ((with_reducible refine fro_new_of ?_) <;> (first | (with_reducible rfl) | (simp; done))) | (with_reducible refine cell_alloc_of _ ?_) | (with_reducible refine cell_set_of _ (by (first | exact Nat.le_refl _ | omega | (simp; done) | (simp; omega))) ?_) | (with_reducible refine fro_drew_of ?_) | (with_reducible refine fro_drewN_of ?_) | (with_reducible refine fro_below_of (by with_reducible assumption) (by (first | exact Nat.le_refl _ | omega | (simp; done) | (simp; omega))) ?_) | (with_reducible refine fro_alloc_of _ (by (first | exact Nat.le_refl _ | omega | (simp; done) | (simp; omega))) ?_) | (with_reducible refine fro_set_of _ ?_)))), cell_below_of hb4 (by (repeat' refine And.intro ?_ ?_) <;> (repeat (first | (with_reducible assumption) | (simp; done) | (with_reducible refine cell_drew_of ?_) | (with_reducible refine cell_drewN_of ?_) | (with_reducible refine cell_below_of (by with_reducible assumption) ?_) | ((with_reducible refine cell_new_of ?_ ?_) <;> (first | (with_reducible rfl) | (simp; done))) | ((with_reducible refine fro_new_of ?_) <;> (first | (with_reducible rfl) | (simp; done))) | (with_reducible refine cell_alloc_of _ ?_) | (with_reducible refine cell_set_of _ (by (first | exact Nat.le_refl _ | omega | (simp; done) | (simp; omega))) ?_) | (with_reducible refine fro_drew_of ?_) | (with_reducible refine fro_drewN_of ?_) | (with_reducible refine fro_below_of (by with_reducible assumption) (by (first | exact Nat.le_refl _ | omega | (simp; done) | (simp; omega))) ?_) | (with_reducible refine fro_alloc_of _ (by (first | exact Nat.le_refl _ | omega | (simp; done) | (simp; omega))) ?_) | (with_reducible refine fro_set_of _ ?_)))), cell_below_of hb4 (by (repeat' refine And.intro ?_ ?_) <;> (repeat (first | (with_reducible assumption) | (simp; done) | (with_reducible refine cell_drew_of ?_) | (with_reducible refine cell_drewN_of ?_) | (with_reducible refine cell_below_of (by with_reducible assumption) ?_) | ((with_reducible refine cell_new_of ?_ ?_) <;> (first | (with_reducible rfl) | (simp; done))) | ((with_reducible refine fro_new_of ?_) <;> (first | (with_reducible rfl) | (simp; done))) | (with_reducible refine cell_alloc_of _ ?_) | (with_reducible refine cell_set_of _ (by (first | exact Nat.le_refl _ | omega | (simp; done) | (simp; omega))) ?_) | (with_reducible refine fro_drew_of ?_) | (with_reducible refine fro_drewN_of ?_) | (with_reducible refine fro_below_of (by with_reducible assumption) (by (first | exact Nat.le_refl _ | omega | (simp; done) | (simp; omega))) ?_) | (with_reducible refine fro_alloc_of _ (by (first | exact Nat.le_refl _ | omega | (simp; done) | (simp; omega))) ?_) | (with_reducible refine fro_set_of _ ?_))))⟩
          have hs4 : w3.heap.size < w4.heap.size := by have := hb4.size; simp only [World.size_alloc] at this; omega
          clear hb4 hba hyo b0 b1 b2 x0 x1 x2 HOP HOG HB34
          obtain ⟨⟨z0, z1, z2⟩, y0, y1, y2⟩ := HZ4.out
          have hyo := hy4.out
          by_cases hce : (st.more k q f).check = 0
          · have hcb : ((st.more k q f).check != 0) = false := by simpa using hce
            have HCE := Lib.hid hce
            obtain ⟨m0, m1, m2⟩ := HM.out
            clear hce
            go_wp2_with fail
            have HFP := Lib.hid (((HOP4.out.set (p := ⟨W.heap.size + 1, 0, none⟩) (by show W.heap.size + 1 < wq.heap.size; omega) (.slice pB st.n pc3)).set (p := ⟨W.heap.size + 1, 1, none⟩) (by show W.heap.size + 1 < wq.heap.size; omega) (.slice gB st.m gc3)).set (p := ⟨W.heap.size + 1, 2, none⟩) (by show W.heap.size + 1 < wq.heap.size; omega) (.int .i64 st.lots))
            have HFG := Lib.hid (((HOG4.out.set (p := ⟨W.heap.size + 1, 0, none⟩) (by show W.heap.size + 1 < wq.heap.size; omega) (.slice pB st.n pc3)).set (p := ⟨W.heap.size + 1, 1, none⟩) (by show W.heap.size + 1 < wq.heap.size; omega) (.slice gB st.m gc3)).set (p := ⟨W.heap.size + 1, 2, none⟩) (by show W.heap.size + 1 < wq.heap.size; omega) (.int .i64 st.lots))
            exact bodyPost_ret (v := .tuple #[stV pB st.n pc3 gB st.m gc3 st.lots, .int .i64 0]) (by simp [results, Try.results56, go_sem, z0, z1, z2]; try rfl) rfl ⟨(by repeat (first | (with_reducible exact Below.refl _ _) | (with_reducible refine Below.drew ?_) | (with_reducible refine below_drewN ?_ _) | ((with_reducible refine below_alloc ?_ ?_ _); · (first | exact Nat.le_refl _ | omega | (simp; done) | (simp; omega) | (simp at *; omega))) | ((with_reducible refine below_set ?_ ?_ _); · (first | exact Nat.le_refl _ | omega | (simp; done) | (simp; omega) | (simp at *; omega))) | ((with_reducible refine below_via (by with_reducible assumption) ?_ ?_); · (first | exact Nat.le_refl _ | omega | (simp; done) | (simp; omega) | (simp at *; omega))))), .inl ⟨by rw [HR.out, HCE.out], pB, pc3, gB, gc3, rfl, HFP.out.mono (by omega), HFG.out.mono (by omega), hpc3, hgc3⟩⟩
          · have hcb : ((st.more k q f).check != 0) = true := by simpa using hce
            have HCE := Lib.hid hce
            clear hce
            go_wp2_with fail
            exact bodyPost_ret (v := emptyS (st.more k q f).check) (by simp [results, Try.results56, go_sem, z0, z1, z2]; try rfl) rfl ⟨(by repeat (first | (with_reducible exact Below.refl _ _) | (with_reducible refine Below.drew ?_) | (with_reducible refine below_drewN ?_ _) | ((with_reducible refine below_alloc ?_ ?_ _); · (first | exact Nat.le_refl _ | omega | (simp; done) | (simp; omega) | (simp at *; omega))) | ((with_reducible refine below_set ?_ ?_ _); · (first | exact Nat.le_refl _ | omega | (simp; done) | (simp; omega) | (simp at *; omega))) | ((with_reducible refine below_via (by with_reducible assumption) ?_ ?_); · (first | exact Nat.le_refl _ | omega | (simp; done) | (simp; omega) | (simp at *; omega))))), .inr ⟨by rw [HR.out]; exact HCE.out, by rw [HR.out]⟩⟩
  · have HR : Hid (st.openErr p q f = st.check) := Lib.hid (by unfold St.openErr; rw [if_pos hne])
    have hnb : (st.check != 0) = true := by simpa using hne
    have HN := Lib.hid hne
    obtain ⟨hc1, hf1⟩ := bcell hb1; have hz1 := hb1.size; (try simp only [World.size_drew, World.heap_drewN, World.size_alloc] at hz1)
    have z0 : w1.cell? ⟨W.heap.size + 1, 0, none⟩ = some (.slice none 0 0) := (by repeat (first | (with_reducible assumption) | (simp; done) | (with_reducible refine cell_drew_of ?_) | (with_reducible refine cell_drewN_of ?_) | (with_reducible refine cell_below_of (by with_reducible assumption) ?_) | ((with_reducible refine cell_new_of ?_ ?_) <;> (first | (with_reducible rfl) | (simp; done))) | ((with_reducible refine fro_new_of ?_) <;> (first | (with_reducible rfl) | (simp; done))) | (with_reducible refine cell_alloc_of _ ?_) | (with_reducible refine cell_set_of _ (by (first | exact Nat.le_refl _ | omega | (simp; done) | (simp; omega) | (simp at *; omega))) ?_) | (with_reducible refine fro_drew_of ?_) | (with_reducible refine fro_drewN_of ?_) | (with_reducible refine fro_below_of (by with_reducible assumption) (by (first | exact Nat.le_refl _ | omega | (simp; done) | (simp; omega) | (simp at *; omega))) ?_) | (with_reducible refine fro_alloc_of _ (by (first | exact Nat.le_refl _ | omega | (simp; done) | (simp; omega) | (simp at *; omega))) ?_) | (with_reducible refine fro_set_of _ ?_)))
    have z1 : w1.cell? ⟨W.heap.size + 1, 1, none⟩ = some (.slice none 0 0) := (by repeat (first | (with_reducible assumption) | (simp; done) | (with_reducible refine cell_drew_of ?_) | (with_reducible refine cell_drewN_of ?_) | (with_reducible refine cell_below_of (by with_reducible assumption) ?_) | ((with_reducible refine cell_new_of ?_ ?_) <;> (first | (with_reducible rfl) | (simp; done))) | ((with_reducible refine fro_new_of ?_) <;> (first | (with_reducible rfl) | (simp; done))) | (with_reducible refine cell_alloc_of _ ?_) | (with_reducible refine cell_set_of _ (by (first | exact Nat.le_refl _ | omega | (simp; done) | (simp; omega) | (simp at *; omega))) ?_) | (with_reducible refine fro_drew_of ?_) | (with_reducible refine fro_drewN_of ?_) | (with_reducible refine fro_below_of (by with_reducible assumption) (by (first | exact Nat.le_refl _ | omega | (simp; done) | (simp; omega) | (simp at *; omega))) ?_) | (with_reducible refine fro_alloc_of _ (by (first | exact Nat.le_refl _ | omega | (simp; done) | (simp; omega) | (simp at *; omega))) ?_) | (with_reducible refine fro_set_of _ ?_)))
    have z2 : w1.cell? ⟨W.heap.size + 1, 2, none⟩ = some (.int .i64 0) := (by repeat (first | (with_reducible assumption) | (simp; done) | (with_reducible refine cell_drew_of ?_) | (with_reducible refine cell_drewN_of ?_) | (with_reducible refine cell_below_of (by with_reducible assumption) ?_) | ((with_reducible refine cell_new_of ?_ ?_) <;> (first | (with_reducible rfl) | (simp; done))) | ((with_reducible refine fro_new_of ?_) <;> (first | (with_reducible rfl) | (simp; done))) | (with_reducible refine cell_alloc_of _ ?_) | (with_reducible refine cell_set_of _ (by (first | exact Nat.le_refl _ | omega | (simp; done) | (simp; omega) | (simp at *; omega))) ?_) | (with_reducible refine fro_drew_of ?_) | (with_reducible refine fro_drewN_of ?_) | (with_reducible refine fro_below_of (by with_reducible assumption) (by (first | exact Nat.le_refl _ | omega | (simp; done) | (simp; omega) | (simp at *; omega))) ?_) | (with_reducible refine fro_alloc_of _ (by (first | exact Nat.le_refl _ | omega | (simp; done) | (simp; omega) | (simp at *; omega))) ?_) | (with_reducible refine fro_set_of _ ?_)))
    have y0 : w1.frozen? ⟨W.heap.size + 1, 0, none⟩ = false := (by repeat (first | (with_reducible assumption) | (simp; done) | (with_reducible refine cell_drew_of ?_) | (with_reducible refine cell_drewN_of ?_) | (with_reducible refine cell_below_of (by with_reducible assumption) ?_) | ((with_reducible refine cell_new_of ?_ ?_) <;> (first | (with_reducible rfl) | (simp; done))) | ((with_reducible refine fro_new_of ?_) <;> (first | (with_reducible rfl) | (simp; done))) | (with_reducible refine cell_alloc_of _ ?_) | (with_reducible refine cell_set_of _ (by (first | exact Nat.le_refl _ | omega | (simp; done) | (simp; omega) | (simp at *; omega))) ?_) | (with_reducible refine fro_drew_of ?_) | (with_reducible refine fro_drewN_of ?_) | (with_reducible refine fro_below_of (by with_reducible assumption) (by (first | exact Nat.le_refl _ | omega | (simp; done) | (simp; omega) | (simp at *; omega))) ?_) | (with_reducible refine fro_alloc_of _ (by (first | exact Nat.le_refl _ | omega | (simp; done) | (simp; omega) | (simp at *; omega))) ?_) | (with_reducible refine fro_set_of _ ?_)))
    have y1 : w1.frozen? ⟨W.heap.size + 1, 1, none⟩ = false := (by repeat (first | (with_reducible assumption) | (simp; done) | (with_reducible refine cell_drew_of ?_) | (with_reducible refine cell_drewN_of ?_) | (with_reducible refine cell_below_of (by with_reducible assumption) ?_) | ((with_reducible refine cell_new_of ?_ ?_) <;> (first | (with_reducible rfl) | (simp; done))) | ((with_reducible refine fro_new_of ?_) <;> (first | (with_reducible rfl) | (simp; done))) | (with_reducible refine cell_alloc_of _ ?_) | (with_reducible refine cell_set_of _ (by (first | exact Nat.le_refl _ | omega | (simp; done) | (simp; omega) | (simp at *; omega))) ?_) | (with_reducible refine fro_drew_of ?_) | (with_reducible refine fro_drewN_of ?_) | (with_reducible refine fro_below_of (by with_reducible assumption) (by (first | exact Nat.le_refl _ | omega | (simp; done) | (simp; omega) | (simp at *; omega))) ?_) | (with_reducible refine fro_alloc_of _ (by (first | exact Nat.le_refl _ | omega | (simp; done) | (simp; omega) | (simp at *; omega))) ?_) | (with_reducible refine fro_set_of _ ?_)))
    have y2 : w1.frozen? ⟨W.heap.size + 1, 2, none⟩ = false := (by repeat (first | (with_reducible assumption) | (simp; done) | (with_reducible refine cell_drew_of ?_) | (with_reducible refine cell_drewN_of ?_) | (with_reducible refine cell_below_of (by with_reducible assumption) ?_) | ((with_reducible refine cell_new_of ?_ ?_) <;> (first | (with_reducible rfl) | (simp; done))) | ((with_reducible refine fro_new_of ?_) <;> (first | (with_reducible rfl) | (simp; done))) | (with_reducible refine cell_alloc_of _ ?_) | (with_reducible refine cell_set_of _ (by (first | exact Nat.le_refl _ | omega | (simp; done) | (simp; omega) | (simp at *; omega))) ?_) | (with_reducible refine fro_drew_of ?_) | (with_reducible refine fro_drewN_of ?_) | (with_reducible refine fro_below_of (by with_reducible assumption) (by (first | exact Nat.le_refl _ | omega | (simp; done) | (simp; omega) | (simp at *; omega))) ?_) | (with_reducible refine fro_alloc_of _ (by (first | exact Nat.le_refl _ | omega | (simp; done) | (simp; omega) | (simp at *; omega))) ?_) | (with_reducible refine fro_set_of _ ?_)))
    clear hc1 hf1 hne
    go_wp2_with fail
    exact bodyPost_ret (v := emptyS st.check) (by simp [results, Try.results56, go_sem, z0, z1, z2]; try rfl) rfl ⟨(by repeat (first | (with_reducible exact Below.refl _ _) | (with_reducible refine Below.drew ?_) | (with_reducible refine below_drewN ?_ _) | ((with_reducible refine below_alloc ?_ ?_ _); · (first | exact Nat.le_refl _ | omega | (simp; done) | (simp; omega) | (simp at *; omega))) | ((with_reducible refine below_set ?_ ?_ _); · (first | exact Nat.le_refl _ | omega | (simp; done) | (simp; omega) | (simp at *; omega))) | ((with_reducible refine below_via (by with_reducible assumption) ?_ ?_); · (first | exact Nat.le_refl _ | omega | (simp; done) | (simp; omega) | (simp at *; omega))))), .inr ⟨by rw [HR.out]; exact HN.out, by rw [HR.out]⟩⟩
end Go.Proofs.Ytegmomappbehcaa

set_option linter.unusedSimpArgs false
set_option linter.unusedVariables false
namespace Go.Proofs.Ytegmomappbehcaa

/-- a store of which more is known -/
structure Narrow (st s2 : St) : Prop where
  n : s2.n = st.n
  m : s2.m = st.m
  l : s2.lots = st.lots
  g : ∀ k, s2.G k = st.G k
  p : ∀ k, k < st.n → (s2.P k).s = (st.P k).s ∧ (s2.P k).hi ≤ (st.P k).hi ∧ (st.P k).f ≤ (s2.P k).f
theorem Narrow.all {st s2 : St} (h : Narrow st s2) : s2.all = st.all := by
  unfold St.all
  rw [h.n]
  congr 1
  · split
    · exact (h.p 0 ‹_›).1
    · rfl
  · split
    · exact (h.p 1 ‹_›).1
    · rfl
  · split
    · exact (h.p 2 ‹_›).1
    · rfl
  · split
    · exact (h.p 3 ‹_›).1
    · rfl
theorem Narrow.hi {st s2 : St} (h : Narrow st s2) (x : Bag) : s2.hi x ≤ st.hi x := by
  unfold St.hi
  rw [h.n]
  refine sumN_le (fun k hk => ?_)
  have := (h.p k hk).2.1
  unfold Pk.hiOf
  omega
theorem Narrow.lo {st s2 : St} (h : Narrow st s2) (x : Bag) : st.lo x ≤ s2.lo x := by
  unfold St.lo
  rw [h.n]
  refine sumN_le (fun k hk => ?_)
  have := h.p k hk
  unfold Pk.loOf
  omega
theorem Narrow.has {st s2 : St} (h : Narrow st s2) {x : Bag} {g : Gd} (hx : st.has x g = true) : s2.has x g = true := by
  have := h.hi x
  unfold St.has at hx ⊢
  simp only [Bool.and_eq_true, decide_eq_true_iff] at hx ⊢
  omega
theorem Narrow.first {st s2 : St} (h : Narrow st s2) (x : Bag) : s2.first x ≤ st.first x ∧ st.first x ≤ st.m := by
  obtain ⟨h1, h2, h3, h4⟩ := first_spec (st := st) (x := x) st.m 0
  obtain ⟨g1, g2, g3, g4⟩ := first_spec (st := s2) (x := x) s2.m 0
  have e : st.firstFrom x st.m 0 = st.first x := rfl
  have e2 : s2.firstFrom x s2.m 0 = s2.first x := rfl
  rw [e] at h2 h3
  rw [e2, h.m] at g2
  rw [e2] at g4
  refine ⟨?_, by omega⟩
  by_cases hf : st.first x < st.m
  · apply Classical.byContradiction
    intro hn
    have h5 := g4 (st.first x) (Nat.zero_le _) (by omega)
    rw [h.g, h.has (h3 (by omega))] at h5
    cases h5
  · omega
theorem Narrow.sure {st s2 : St} (h : Narrow st s2) (x : Bag) : 0 ≤ st.sureI x → 0 ≤ s2.sureI x ∧ s2.sureI x ≤ st.sureI x := by
  have h1 := h.first x
  unfold St.sureI
  rw [h.m]
  intro h0
  split at h0
  · rename_i hf
    rw [if_pos (by omega), if_pos hf]
    omega
  · omega
theorem Narrow.brings {st s2 : St} (hst : st.ok) (h : Narrow st s2) {x : Bag} (hx : 0 ≤ x.size) : st.brings x ≤ s2.brings x := by
  have h1 := h.first x
  have hp : st.price x ≤ s2.price x := by
    unfold St.price
    rw [h.m]
    by_cases hf : st.first x < st.m
    · rw [if_pos hf, if_pos (by omega), h.g]
      obtain ⟨d, hd⟩ : ∃ d, st.first x = s2.first x + d := ⟨st.first x - s2.first x, by omega⟩
      have := gprice_le hst (i := s2.first x) d (by omega)
      rw [← hd] at this
      exact this
    · rw [if_neg hf]
      split
      · rename_i h2
        rw [h.g]
        have := (hst.gd _ h2).2
        omega
      · exact Int.le_refl _
  unfold St.brings
  exact Int.mul_le_mul_of_nonneg_left hp hx
theorem Narrow.top {st s2 : St} (hst : st.ok) (h2 : s2.ok) (h : Narrow st s2) : st.top ≤ s2.top := by
  unfold St.top
  rw [h.l, h.all]
  obtain ⟨i1, i2, i3⟩ := St.planN_all hst st.lots.toNat st.all (St.all_self hst)
  rw [← i3]
  have hlen := St.planN_len st st.lots.toNat st.all
  have hin : ∀ j, j < (st.planN st.lots.toNat st.all).length → ((st.planN st.lots.toNat st.all).getD j bagZ).in_ st.all := fun j hj => (St.plan_get hst hj).1
  have h1 := St.plan_le h2 (st.planN st.lots.toNat st.all).length st.lots.toNat (fun j => (st.planN st.lots.toNat st.all).getD j bagZ) st.all (by have := St.all_self h2; rw [h.all] at this ⊢; exact this) hlen (fun j hj p _ => (Bag.in_at (hin j hj) p).1) (fun p _ => i2 p)
  refine Int.le_trans (sumN_le (fun j hj => ?_)) h1
  exact Narrow.brings hst h (St.size_bd hst (hin j hj)).1
/-- opening sacks -/
theorem more_narrow {st : St} {p : Nat} {q f : Int} (hq : 0 ≤ f ∧ f ≤ q) : Narrow st (st.more p q f) := by
  refine ⟨rfl, rfl, rfl, fun _ => rfl, fun k hk => ?_⟩
  show (if k = p then (st.P k).more q f else st.P k).s = _ ∧ (if k = p then (st.P k).more q f else st.P k).hi ≤ _ ∧ _ ≤ (if k = p then (st.P k).more q f else st.P k).f
  split
  · refine ⟨rfl, ?_, ?_⟩
    · show min (st.P k).w ((st.P k).s - ((st.P k).o + q) + ((st.P k).f + f)) ≤ min (st.P k).w ((st.P k).s - (st.P k).o + (st.P k).f)
      omega
    · show (st.P k).f ≤ (st.P k).f + f
      omega
  · exact ⟨rfl, Int.le_refl _, Int.le_refl _⟩
theorem more_pk {st : St} (hst : st.ok) {p : Nat} (hp : p < st.n) {q f : Int} (hq : 0 ≤ q ∧ q ≤ (st.P p).s - (st.P p).o) (hf : 0 ≤ f ∧ f ≤ q) : ∀ k, k < st.n → ((st.more p q f).P k).rng := fun k hk => by
  have h1 := hst.pk k hk
  show (if k = p then (st.P k).more q f else st.P k).rng
  split
  · subst k
    obtain ⟨a, b, c, d⟩ := h1
    exact ⟨a, b, ⟨by show 0 ≤ (st.P p).o + q; omega, by show (st.P p).o + q ≤ (st.P p).s; omega⟩, ⟨by show 0 ≤ (st.P p).f + f; omega, by show (st.P p).f + f ≤ (st.P p).o + q; omega⟩⟩
  · exact h1
/-- its check: right, or the numbers clash -/
theorem more_check {st : St} (hst : st.ok) {p : Nat} (hp : p < st.n) {q f : Int} (hq : 0 ≤ q ∧ q ≤ (st.P p).s - (st.P p).o) (hf : 0 ≤ f ∧ f ≤ q) : ((st.more p q f).check = 0 ∧ ((st.P p).more q f).f ≤ ((st.P p).more q f).hi) ∨ ((st.more p q f).check = 7 ∧ ((st.P p).more q f).hi < ((st.P p).more q f).f) := by
  have hpk := more_pk hst hp hq hf
  by_cases hc : ((st.P p).more q f).f ≤ ((st.P p).more q f).hi
  · refine .inl ⟨St.check_ok.2 ⟨hst.n1, hst.n4, hst.m4, hpk, hst.gd, hst.l0, hst.l3, hst.up, fun k hk => ?_⟩, hc⟩
    show (if k = p then (st.P k).more q f else st.P k).f ≤ (if k = p then (st.P k).more q f else st.P k).hi
    split
    · subst k
      exact hc
    · exact hst.sp k hk
  · refine .inr ⟨?_, by omega⟩
    have a0 : ¬ (¬ (1 ≤ (st.more p q f).n ∧ (st.more p q f).n ≤ 4) ∨ 4 < (st.more p q f).m) := by
      have h1 := hst.n1
      have h2 := hst.n4
      have h3 := hst.m4
      show ¬ (¬ (1 ≤ st.n ∧ st.n ≤ 4) ∨ 4 < st.m)
      omega
    have a1 : allN (fun k => pkRngB ((st.more p q f).P k)) (st.more p q f).n = true := allN_iff.2 (fun k hk => pkRngB_iff.2 (hpk k hk))
    have a2 : allN (fun k => gdRngB ((st.more p q f).G k)) (st.more p q f).m = true := allN_iff.2 (fun k hk => gdRngB_iff.2 (hst.gd k hk))
    have a3 : inB (st.more p q f).lots 0 3 = true := by
      have h1 := hst.l0
      have h2 := hst.l3
      show inB st.lots 0 3 = true
      simp [inB]
      omega
    have a4 : allN (upB (st.more p q f)) ((st.more p q f).m - 1) = true := allN_iff.2 (fun k hk => by
      have hk' : k < st.m - 1 := hk
      have := hst.up k (by omega)
      show upB st k = true
      simpa [upB] using this)
    have a5 : allN (fun k => decide (((st.more p q f).P k).f ≤ ((st.more p q f).P k).hi)) (st.more p q f).n = false := allN_false hp (by
      show decide ((if p = p then (st.P p).more q f else st.P p).f ≤ (if p = p then (st.P p).more q f else st.P p).hi) = false
      rw [if_pos rfl]
      exact decide_eq_false hc)
    unfold St.check
    rw [if_neg a0, a1, if_neg (by decide), a2, a3, if_neg (by decide), a4, if_neg (by decide), a5, if_pos rfl]
/-- what was really found is possible -/
theorem really_found {st : St} {R : Nat → Int} {most : Int} (hst : st.ok) {p : Nat} (hp : p < st.n) (hg : goodPk most (st.P p) (R p)) {q : Int} (hq : 0 ≤ q ∧ q ≤ (st.P p).s - (st.P p).o) :
    (0 ≤ max 0 (R p - (st.P p).f - ((st.P p).s - (st.P p).o - q)) ∧ max 0 (R p - (st.P p).f - ((st.P p).s - (st.P p).o - q)) ≤ q) ∧ (st.more p q (max 0 (R p - (st.P p).f - ((st.P p).s - (st.P p).o - q)))).check = 0 := by
  have hb : 0 ≤ max 0 (R p - (st.P p).f - ((st.P p).s - (st.P p).o - q)) ∧ max 0 (R p - (st.P p).f - ((st.P p).s - (st.P p).o - q)) ≤ q := by
    unfold goodPk at hg
    omega
  refine ⟨hb, ?_⟩
  rcases more_check hst hp hq hb with h | h
  · exact h.1
  · exfalso
    have h2 := h.2
    unfold goodPk at hg
    unfold Pk.hi Pk.more at h2
    dsimp only at h2
    omega
/-- least and greatest of a list -/
def minL (L : List Int) : Int := minN (fun j => L.getD j 0) (L.length - 1)
def maxL (L : List Int) : Int := maxN (fun j => L.getD j 0) (L.length - 1)
theorem minN_congr {X Y : Nat → Int} : ∀ n, (∀ k, k ≤ n → X k = Y k) → minN X n = minN Y n
  | 0, h => h 0 (Nat.le_refl _)
  | n + 1, h => by unfold minN; rw [minN_congr n (fun k hk => h k (by omega)), h (n + 1) (Nat.le_refl _)]
theorem maxN_congr {X Y : Nat → Int} : ∀ n, (∀ k, k ≤ n → X k = Y k) → maxN X n = maxN Y n
  | 0, h => h 0 (Nat.le_refl _)
  | n + 1, h => by unfold maxN; rw [maxN_congr n (fun k hk => h k (by omega)), h (n + 1) (Nat.le_refl _)]
theorem getD_snoc (L : List Int) (v : Int) : ∀ k, (k < L.length → (L ++ [v]).getD k 0 = L.getD k 0) ∧ (L ++ [v]).getD L.length 0 = v := fun k =>
  ⟨fun h => by simp [List.getD_eq_getElem?_getD, List.getElem?_append_left h], by simp [List.getD_eq_getElem?_getD]⟩
theorem minL_snoc (L : List Int) (v : Int) : minL (L ++ [v]) = if L = [] then v else min (minL L) v := by
  cases L with
  | nil => rfl
  | cons a L =>
    rw [if_neg (by simp)]
    unfold minL
    have e : ((a :: L) ++ [v]).length - 1 = ((a :: L).length - 1) + 1 := by simp
    rw [e]
    show min (minN _ _) _ = _
    rw [minN_congr (Y := fun j => (a :: L).getD j 0) _ (fun k hk => (getD_snoc (a :: L) v k).1 (by simp at hk ⊢; omega))]
    congr 1
    have e2 : (a :: L).length - 1 + 1 = (a :: L).length := by simp
    rw [e2]
    exact (getD_snoc (a :: L) v 0).2
theorem maxL_snoc (L : List Int) (v : Int) : maxL (L ++ [v]) = if L = [] then v else max (maxL L) v := by
  cases L with
  | nil => rfl
  | cons a L =>
    rw [if_neg (by simp)]
    unfold maxL
    have e : ((a :: L) ++ [v]).length - 1 = ((a :: L).length - 1) + 1 := by simp
    rw [e]
    show max (maxN _ _) _ = _
    rw [maxN_congr (Y := fun j => (a :: L).getD j 0) _ (fun k hk => (getD_snoc (a :: L) v k).1 (by simp at hk ⊢; omega))]
    congr 1
    have e2 : (a :: L).length - 1 + 1 = (a :: L).length := by simp
    rw [e2]
    exact (getD_snoc (a :: L) v 0).2
theorem minN_ge {X : Nat → Int} {c : Int} : ∀ n, (∀ k, k ≤ n → c ≤ X k) → c ≤ minN X n
  | 0, h => h 0 (Nat.le_refl _)
  | n + 1, h => by
    have h1 := minN_ge n (fun k hk => h k (by omega))
    have h2 := h (n + 1) (Nat.le_refl _)
    unfold minN
    omega
theorem minN_max (X : Nat → Int) : ∀ n, minN X n ≤ maxN X n
  | 0 => Int.le_refl _
  | n + 1 => by
    have h1 := minN_max X n
    unfold minN maxN
    omega
theorem minL_ge {L : List Int} {c : Int} (hL : L ≠ []) (h : ∀ v, v ∈ L → c ≤ v) : c ≤ minL L ∧ minL L ≤ maxL L := by
  refine ⟨minN_ge _ (fun k hk => ?_), minN_max _ _⟩
  have hk' : k < L.length := by
    have : 0 < L.length := by
      cases L with
      | nil => exact absurd rfl hL
      | cons a L => simp
    omega
  refine h _ ?_
  rw [List.getD_eq_getElem?_getD, List.getElem?_eq_getElem hk']
  exact List.getElem_mem _
/-- plans bring no less after sacks were opened -/
theorem payAll_ge {st : St} (hst : st.ok) {p : Nat} {q : Nat} : ∀ k, k ≤ q + 1 → ∀ v, v ∈ st.payAll p (q : Int) k → st.top ≤ v
  | 0, _, v, hv => by cases hv
  | k + 1, hk, v, hv => by
    unfold St.payAll at hv
    rcases List.mem_append.1 hv with h | h
    · exact payAll_ge hst k (by omega) v h
    · split at h
      · rename_i hc
        rw [List.mem_singleton.1 h]
        exact Narrow.top hst (St.check_ok.1 hc) (more_narrow (by omega))
      · cases h
theorem pays_is {st : St} (hst : st.ok) {p q : Nat} (hp : p < st.n) (hq : (q : Int) ≤ (st.P p).s - (st.P p).o) : st.paysR p q = (minL (st.payAll p q (q + 1)), maxL (st.payAll p q (q + 1)), 0) := by
  unfold St.paysR
  rw [if_neg (by simp [St.check_ok.2 hst]), if_neg (by simp [inB]; omega), Int.toNat_natCast, if_neg (by simp [inB]; omega), Int.toNat_natCast]
  rfl
theorem pays_ge {st : St} (hst : st.ok) {p q : Nat} (hp : p < st.n) (hq : (q : Int) ≤ (st.P p).s - (st.P p).o) : st.top ≤ minL (st.payAll p q (q + 1)) ∧ minL (st.payAll p q (q + 1)) ≤ maxL (st.payAll p q (q + 1)) ∧ st.payAll p q (q + 1) ≠ [] := by
  have hne : st.payAll p q (q + 1) ≠ [] := by
    have := St.payAll_pos hst hp (q := (q : Int)) (by omega) hq q
    intro e
    rw [e] at this
    cases this
  obtain ⟨h1, h2⟩ := minL_ge hne (payAll_ge hst (p := p) (q + 1) (Nat.le_refl _))
  exact ⟨h1, h2, hne⟩
/-- least and greatest of what was met so far -/
def LRel (L : List Int) (ls gr : Int) (me : Bool) : Prop := (L = [] ∧ me = false ∧ ls = 0 ∧ gr = 0) ∨ (L ≠ [] ∧ me = true ∧ ls = minL L ∧ gr = maxL L)
theorem LRel.put0 {L : List Int} {n : Int} (hn : 0 ≤ n) (h : L = []) : LRel (L ++ [n]) n (max 0 n) true := by
  refine .inr ⟨by simp, rfl, ?_, ?_⟩
  · rw [minL_snoc, if_pos h]
  · rw [maxL_snoc, if_pos h]
    omega
theorem LRel.put1 {L : List Int} {n : Int} (h : L ≠ []) (hn : n < minL L) : LRel (L ++ [n]) n (max (maxL L) n) true := by
  refine .inr ⟨by simp, rfl, ?_, ?_⟩
  · rw [minL_snoc, if_neg h]
    omega
  · rw [maxL_snoc, if_neg h]
theorem LRel.put2 {L : List Int} {n : Int} (h : L ≠ []) (hn : ¬ n < minL L) : LRel (L ++ [n]) (minL L) (max (maxL L) n) true := by
  refine .inr ⟨by simp, rfl, ?_, ?_⟩
  · rw [minL_snoc, if_neg h]
    omega
  · rw [maxL_snoc, if_neg h]
theorem open_err {st : St} (hst : st.ok) {p q : Nat} (hp : p < st.n) (hq : (q : Int) ≤ (st.P p).s - (st.P p).o) {f : Int} (hf : 0 ≤ f ∧ f ≤ (q : Int)) : st.openErr p q f = (st.more p q f).check := by
  unfold St.openErr
  rw [if_neg (by simp [St.check_ok.2 hst]), if_neg (by simp [inB]; omega), Int.toNat_natCast, if_neg (by simp [inB]; omega)]
theorem payAll_no {st : St} {p : Nat} {q : Int} {k : Nat} (h : (st.more p q (k : Int)).check ≠ 0) : st.payAll p q (k + 1) = st.payAll p q k := by
  show st.payAll p q k ++ _ = _
  rw [if_neg h, List.append_nil]
theorem payAll_yes {st : St} {p : Nat} {q : Int} {k : Nat} (h : (st.more p q (k : Int)).check = 0) : st.payAll p q (k + 1) = st.payAll p q k ++ [(st.more p q (k : Int)).top] := by
  show st.payAll p q k ++ _ = _
  rw [if_pos h]
theorem top_nn {st : St} (hst : st.ok) : 0 ≤ st.top := (St.choose_bd hst st.lots.toNat st.all (St.all_self hst)).1
end Go.Proofs.Ytegmomappbehcaa

set_option linter.unusedSimpArgs false
set_option linter.unusedVariables false
namespace Go.Proofs.Ytegmomappbehcaa
open Go.RowKit Go.Shelf

/-- a store in a box -/
structure BxAt (w : World) (b : Nat) (st : St) (pA gA : Option Addr) (pc gc : Nat) : Prop where
  s : StAt w b pA st.n pc gA st.m gc st.lots
  r : StRow w w.heap.size st pA pc gA gc
theorem BxAt.later {w w' : World} {b : Nat} {st : St} {pA gA : Option Addr} {pc gc : Nat} (h : BxAt w b st pA gA pc gc) (hb : Below w.heap.size w w') : BxAt w' b st pA gA pc gc := ⟨h.s.later hb, h.r.later2 hb⟩
/-- the boxes of the law -/
structure OBox (w : World) (b0 b1 b2 : Nat) (p : Pk) (mi ma lo hi : Int) : Prop where
  p : P4Bx w b0 p
  n : N2At w b1 mi ma
  c : N2At w b2 lo hi
theorem OBox.later {w w' : World} {b0 b1 b2 : Nat} {p : Pk} {mi ma lo hi : Int} (h : OBox w b0 b1 b2 p mi ma lo hi) (hb : Below w.heap.size w w') : OBox w' b0 b1 b2 p mi ma lo hi := ⟨h.p.later hb, h.n.later hb, h.c.later hb⟩

set_option maxRecDepth 100000 in
set_option maxHeartbeats 8000000 in
theorem opened_law (nA : Option Addr) (nn nc : Nat) (which many : Int) (W : World) (hby : ByIn W W.heap.size nA nn) (hln : nn ≤ 9223372036854775807) :
    Calls Try.prog 11 #[.slice nA nn nc, .int .i64 which, .int .i64 many] W fun e W' => e = .returned (.bool true) ∧ Below W.heap.size W W' := by
  have HBY := Lib.hid hby
  clear hby
  go_enter Try.func11, Try.ntmps11
  go_wp2_with fail
  refine (fill_any W.heap.size nA nn nc _ (Nat.le_refl _) HBY.out).mono ?_
  rintro e w1 ⟨cb, rfl, hcb, hb1, hch⟩
  have HB1 := Lib.hid hb1
  have HC1 := Lib.hid hch
  have hs1 := hb1.size
  have hcl : cb < w1.heap.size := by
    obtain ⟨u, z, _, h⟩ := hch
    exact h.lt
  clear hb1 hch
  go_wp2_with fail
  refine (made_any 3 3 (by omega) (by omega) W.heap.size cb nA nn nc hln _ hs1 hcl HC1.out).mono ?_
  rintro e w2 ⟨st, R, pA, gA, rA, pc, gc, rc, rfl, hn, hm, hl, hgood, ⟨gf, gp, hgd⟩, hop, hog, hor, hpc, hgc, hrc, hg2, hch2⟩
  have hn4 : st.n ≤ 4 := by omega
  have HST := Lib.hid (made_ok ⟨hn.1, hn4⟩ hm hl (by omega) hgood hgd)
  have HRR := Lib.hid (made_real hgood)
  have HC2 := Lib.hid hch2
  have HB2 := Lib.hid (HB1.out.trans (gb_below hg2 hs1 hcb))
  have hs2 := hg2.size
  have HOP := Lib.hid hop
  have HOG := Lib.hid hog
  have HOR := Lib.hid hor
  have HGOOD := Lib.hid hgood
  clear hgood hgd hop hog hor hch2 hg2
  go_upto_region 3 with fail
  refine wp_name (fun W3 => StAt W3 w2.heap.size pA st.n pc gA st.m gc st.lots ∧ Below w2.heap.size w2 W3 ∧ w2.heap.size + 1 ≤ W3.heap.size) ⟨(by (repeat' refine And.intro ?_ ?_) <;> (repeat (first | (with_reducible assumption) | (simp; done) | (with_reducible refine cell_drew_of ?_) | (with_reducible refine cell_drewN_of ?_) | (with_reducible refine cell_below_of (by with_reducible assumption) ?_) | ((with_reducible refine cell_new_of ?_ ?_) <;> (first | (with_reducible rfl) | (simp; done))) | ((with_reducible refine fro_new_of ?_) <;> (first | (with_reducible rfl) | (simp; done))) | (with_reducible refine cell_alloc_of _ ?_) | (with_reducible refine cell_set_of _ (by (first | exact Nat.le_refl _ | omega | (simp; done) | (simp; omega))) ?_) | (with_reducible refine fro_drew_of ?_) | (with_reducible refine fro_drewN_of ?_) | (with_reducible refine fro_below_of (by with_reducible assumption) (by (first | exact Nat.le_refl _ | omega | (simp; done) | (simp; omega))) ?_) | (with_reducible refine fro_alloc_of _ (by (first | exact Nat.le_refl _ | omega | (simp; done) | (simp; omega))) ?_) | (with_reducible refine fro_set_of _ ?_)))), (by repeat (first | (with_reducible exact Below.refl _ _) | (with_reducible refine Below.drew ?_) | (with_reducible refine below_drewN ?_ _) | ((with_reducible refine below_alloc ?_ ?_ _); · (first | exact Nat.le_refl _ | omega | (simp; done) | (simp; omega) | (simp at *; omega))) | ((with_reducible refine below_set ?_ ?_ _); · (first | exact Nat.le_refl _ | omega | (simp; done) | (simp; omega) | (simp at *; omega))) | ((with_reducible refine below_via (by with_reducible assumption) ?_ ?_); · (first | exact Nat.le_refl _ | omega | (simp; done) | (simp; omega) | (simp at *; omega))))), by simp⟩ ?_
  rintro W3 ⟨hsa, hba, hs3⟩
  have H3 : Hid (OwnEv W3 w1.heap.size cb st w2.heap.size pA gA rA pc gc R) := Lib.hid ⟨hsa, HOP.out.later hba, HOG.out.later hba, HOR.out.later hba, hcl, by omega⟩
  have HC3 := Lib.hid (HC2.out.later hba)
  have HB3 := Lib.hid (HB2.out.trans (hba.mono (by omega)))
  clear hsa hba HOP HOG HOR HC2 HB2 HB1 HC1
  obtain ⟨s0, s1, s2⟩ := H3.out.s
  go_wp2_with fail
  refine (wrap_any which (st.n : Int) (by omega) _).mono ?_
  rintro e w ⟨kk, rfl, hk0, hk1, rfl⟩
  obtain ⟨k, rfl⟩ := Int.eq_ofNat_of_zero_le hk0
  have hkn : k < st.n := by omega
  have hki : (k : Int) < (st.n : Int) := by omega
  clear hk1
  obtain ⟨pb, hpA, hpl, p0, p1, p2, p3, pf⟩ := H3.out.p k hkn
  subst hpA
  have hpk := HST.out.pk k hkn
  unfold Pk.rng at hpk
  clear pf
  go_upto_region 5 with fail
  refine wp_name (fun W4 => P4Bx W4 W3.heap.size (st.P k) ∧ Below W3.heap.size W3 W4 ∧ W3.heap.size + 1 ≤ W4.heap.size) ⟨by unfold P4Bx; exact (by (repeat' refine And.intro ?_ ?_) <;> (repeat (first | (with_reducible assumption) | (simp; done) | (with_reducible refine cell_drew_of ?_) | (with_reducible refine cell_drewN_of ?_) | (with_reducible refine cell_below_of (by with_reducible assumption) ?_) | ((with_reducible refine cell_new_of ?_ ?_) <;> (first | (with_reducible rfl) | (simp; done))) | ((with_reducible refine fro_new_of ?_) <;> (first | (with_reducible rfl) | (simp; done))) | (with_reducible refine cell_alloc_of _ ?_) | (with_reducible refine cell_set_of _ (by (first | exact Nat.le_refl _ | omega | (simp; done) | (simp; omega))) ?_) | (with_reducible refine fro_drew_of ?_) | (with_reducible refine fro_drewN_of ?_) | (with_reducible refine fro_below_of (by with_reducible assumption) (by (first | exact Nat.le_refl _ | omega | (simp; done) | (simp; omega))) ?_) | (with_reducible refine fro_alloc_of _ (by (first | exact Nat.le_refl _ | omega | (simp; done) | (simp; omega))) ?_) | (with_reducible refine fro_set_of _ ?_)))), (by repeat (first | (with_reducible exact Below.refl _ _) | (with_reducible refine Below.drew ?_) | (with_reducible refine below_drewN ?_ _) | ((with_reducible refine below_alloc ?_ ?_ _); · (first | exact Nat.le_refl _ | omega | (simp; done) | (simp; omega) | (simp at *; omega))) | ((with_reducible refine below_set ?_ ?_ _); · (first | exact Nat.le_refl _ | omega | (simp; done) | (simp; omega) | (simp at *; omega))) | ((with_reducible refine below_via (by with_reducible assumption) ?_ ?_); · (first | exact Nat.le_refl _ | omega | (simp; done) | (simp; omega) | (simp at *; omega))))), by simp⟩ ?_
  rintro W4 ⟨hpx, hba, hs4⟩
  have H4 := Lib.hid (H3.out.later hba)
  have HC4 := Lib.hid (HC3.out.later hba)
  have HB4 := Lib.hid (HB3.out.trans (hba.mono HB3.out.size))
  have HP4 := Lib.hid hpx
  clear hba hpx s0 s1 s2 p0 p1 p2 p3 H3 HC3 HB3
  obtain ⟨p0, p1, p2, p3⟩ := HP4.out
  obtain ⟨psx, hps⟩ : ∃ x, (st.P k).s = x := ⟨_, rfl⟩
  obtain ⟨pox, hpo⟩ : ∃ x, (st.P k).o = x := ⟨_, rfl⟩
  obtain ⟨pfx, hpf⟩ : ∃ x, (st.P k).f = x := ⟨_, rfl⟩
  rw [hps] at p0 hpk
  rw [hpo] at p2 hpk
  rw [hpf] at p3 hpk
  have HPS := Lib.hid hps
  have HPO := Lib.hid hpo
  have HPF := Lib.hid hpf
  clear hps hpo hpf
  have e1 : IntKind.i64.wrap (psx - pox) = psx - pox := IntWalk.i64_in _ (by omega)
  have e2 : IntKind.i64.wrap (psx - pox + 1) = psx - pox + 1 := IntWalk.i64_in _ (by omega)
  go_wp2_with fail
  refine (wrap_any many (psx - pox + 1) (by omega) _).mono ?_
  rintro e w ⟨qq, rfl, hq0, hq1, rfl⟩
  obtain ⟨q, rfl⟩ := Int.eq_ofNat_of_zero_le hq0
  have hq : (q : Int) ≤ psx - pox := by omega
  clear hq1 e1 e2
  obtain ⟨s0, s1, s2⟩ := H4.out.s
  go_wp2_with fail
  refine (madelot_any st W.heap.size _ cb nA nn nc hln (some ⟨pb, 0, none⟩) gA pc gc _ (H4.out.row (by omega) (by omega) hpc hgc) (H4.out.ne hn.1) hn4 (fun i hi => (HST.out.pk i hi).1) HB4.out.size (by omega) HC4.out).mono ?_
  rintro e w5 ⟨lA, lc, X, rfl, hol, hlc, hx, hg, hch⟩
  have HX := Lib.hid hx
  have HA := Lib.hid (lot_ask HST.out hx)
  have H5' := H4.out.keep hg
  have H5 : Hid (RAt W w5 st w2.heap.size (some ⟨pb, 0, none⟩) gA pc gc lA X rA R) := Lib.hid ⟨H5'.s, H5'.row (by omega) (by omega) hpc hgc, hol.row, H5'.r.row, HB4.out.trans (gb_below hg HB4.out.size hcb)⟩
  have HP5 := Lib.hid (HP4.out.same (hg.block _ HP4.out.lt (fun e => by injection e with e; omega)))
  clear H5' hol hlc hx hg hch s0 s1 s2 p0 p1 p2 p3 H4 HC4 HB4 HP4
  obtain ⟨pA, hpA⟩ : ∃ pA : Option Addr, some ⟨pb, 0, none⟩ = pA := ⟨_, rfl⟩
  rw [hpA] at H5 ⊢
  clear hpA hpl
  obtain ⟨s0, s1, s2⟩ := H5.out.s
  go_wp2_with fail
  refine (Best_any st _ pA gA pc gc _ H5.out.r).mono ?_
  rintro e w6 ⟨hb, hp⟩
  rcases hp with ⟨_, bA, bc, rfl, _, _⟩ | ⟨h0, _⟩
  · have H6 := Lib.hid (H5.out.later hb)
    have HP6 := Lib.hid (HP5.out.later hb)
    have hq' : (q : Int) ≤ (st.P k).s - (st.P k).o := by rw [HPS.out, HPO.out]; exact hq
    have hpg := pays_ge HST.out hkn hq'
    have hpi := pays_is HST.out hkn hq'
    have htop := St.choose_bd HST.out st.lots.toNat st.all (St.all_self HST.out)
    obtain ⟨z, hz⟩ : ∃ z, (st.choose st.lots.toNat st.all).2 = z := ⟨_, rfl⟩
    have hzt : st.top = z := hz
    rw [hzt] at hpg
    rw [hz] at htop ⊢
    have HZT := Lib.hid hzt
    clear hb hz hzt hq' s0 s1 s2 H5 HP5
    generalize (st.planN st.lots.toNat st.all).length = len
    obtain ⟨s0, s1, s2⟩ := H6.out.s
    go_wp2_with fail
    refine (Pays_any st _ pA gA pc gc k q _ H6.out.r).mono ?_
    rintro e w7 ⟨rfl, hb⟩
    rw [hpi]
    have H7 := Lib.hid (H6.out.later hb)
    have HP7 := Lib.hid (HP6.out.later hb)
    obtain ⟨mi, hmi⟩ : ∃ x, minL (st.payAll k q (q + 1)) = x := ⟨_, rfl⟩
    obtain ⟨ma, hma⟩ : ∃ x, maxL (st.payAll k q (q + 1)) = x := ⟨_, rfl⟩
    rw [hmi, hma] at hpg ⊢
    have HMI := Lib.hid hmi
    have HMA := Lib.hid hma
    have HNE := Lib.hid hpg.2.2
    have hm1 : ¬ mi < z := by omega
    have hm2 : ¬ ma < mi := by omega
    clear hb hpi hmi hma hpg s0 s1 s2 H6 HP6
    go_upto_region 9 with fail
    refine wp_name (fun W8 => N2At W8 w7.heap.size mi ma ∧ Below w7.heap.size w7 W8 ∧ w7.heap.size + 1 ≤ W8.heap.size) ⟨(by (repeat' refine And.intro ?_ ?_) <;> (repeat (first | (with_reducible assumption) | (simp; done) | (with_reducible refine cell_drew_of ?_) | (with_reducible refine cell_drewN_of ?_) | (with_reducible refine cell_below_of (by with_reducible assumption) ?_) | ((with_reducible refine cell_new_of ?_ ?_) <;> (first | (with_reducible rfl) | (simp; done))) | ((with_reducible refine fro_new_of ?_) <;> (first | (with_reducible rfl) | (simp; done))) | (with_reducible refine cell_alloc_of _ ?_) | (with_reducible refine cell_set_of _ (by (first | exact Nat.le_refl _ | omega | (simp; done) | (simp; omega))) ?_) | (with_reducible refine fro_drew_of ?_) | (with_reducible refine fro_drewN_of ?_) | (with_reducible refine fro_below_of (by with_reducible assumption) (by (first | exact Nat.le_refl _ | omega | (simp; done) | (simp; omega))) ?_) | (with_reducible refine fro_alloc_of _ (by (first | exact Nat.le_refl _ | omega | (simp; done) | (simp; omega))) ?_) | (with_reducible refine fro_set_of _ ?_)))), (by repeat (first | (with_reducible exact Below.refl _ _) | (with_reducible refine Below.drew ?_) | (with_reducible refine below_drewN ?_ _) | ((with_reducible refine below_alloc ?_ ?_ _); · (first | exact Nat.le_refl _ | omega | (simp; done) | (simp; omega) | (simp at *; omega))) | ((with_reducible refine below_set ?_ ?_ _); · (first | exact Nat.le_refl _ | omega | (simp; done) | (simp; omega) | (simp at *; omega))) | ((with_reducible refine below_via (by with_reducible assumption) ?_ ?_); · (first | exact Nat.le_refl _ | omega | (simp; done) | (simp; omega) | (simp at *; omega))))), by simp⟩ ?_
    rintro W8 ⟨hnx, hba, hs8⟩
    have H8 := Lib.hid (H7.out.later hba)
    have HP8 := Lib.hid (HP7.out.later hba)
    have HN8 := Lib.hid hnx
    clear hba hnx H7 HP7
    obtain ⟨s0, s1, s2⟩ := H8.out.s
    go_wp2_with fail
    refine (Span_any st _ pA gA pc gc lA st.n lc X _ H8.out.r H8.out.l (by omega)).mono ?_
    rintro e w9 ⟨rfl, hb⟩
    have esp : st.spanR st.n X = (st.lo (bagOf X st.n), st.hi (bagOf X st.n), 0) := by unfold St.spanR; rw [if_neg (by simp [HA.out])]
    rw [esp]
    have H9 := Lib.hid (H8.out.later hb)
    have HP9 := Lib.hid (HP8.out.later hb)
    have HN9 := Lib.hid (HN8.out.later hb)
    obtain ⟨clo, hclo⟩ : ∃ x, st.lo (bagOf X st.n) = x := ⟨_, rfl⟩
    obtain ⟨chi, hchi⟩ : ∃ x, st.hi (bagOf X st.n) = x := ⟨_, rfl⟩
    rw [hclo, hchi]
    have HCLO := Lib.hid hclo
    have HCHI := Lib.hid hchi
    clear hb esp hclo hchi s0 s1 s2 H8 HP8 HN8
    go_upto_region 10 with fail
    refine wp_name (fun Wa => N2At Wa w9.heap.size clo chi ∧ Below w9.heap.size w9 Wa ∧ w9.heap.size + 1 ≤ Wa.heap.size) ⟨(by (repeat' refine And.intro ?_ ?_) <;> (repeat (first | (with_reducible assumption) | (simp; done) | (with_reducible refine cell_drew_of ?_) | (with_reducible refine cell_drewN_of ?_) | (with_reducible refine cell_below_of (by with_reducible assumption) ?_) | ((with_reducible refine cell_new_of ?_ ?_) <;> (first | (with_reducible rfl) | (simp; done))) | ((with_reducible refine fro_new_of ?_) <;> (first | (with_reducible rfl) | (simp; done))) | (with_reducible refine cell_alloc_of _ ?_) | (with_reducible refine cell_set_of _ (by (first | exact Nat.le_refl _ | omega | (simp; done) | (simp; omega))) ?_) | (with_reducible refine fro_drew_of ?_) | (with_reducible refine fro_drewN_of ?_) | (with_reducible refine fro_below_of (by with_reducible assumption) (by (first | exact Nat.le_refl _ | omega | (simp; done) | (simp; omega))) ?_) | (with_reducible refine fro_alloc_of _ (by (first | exact Nat.le_refl _ | omega | (simp; done) | (simp; omega))) ?_) | (with_reducible refine fro_set_of _ ?_)))), (by repeat (first | (with_reducible exact Below.refl _ _) | (with_reducible refine Below.drew ?_) | (with_reducible refine below_drewN ?_ _) | ((with_reducible refine below_alloc ?_ ?_ _); · (first | exact Nat.le_refl _ | omega | (simp; done) | (simp; omega) | (simp at *; omega))) | ((with_reducible refine below_set ?_ ?_ _); · (first | exact Nat.le_refl _ | omega | (simp; done) | (simp; omega) | (simp at *; omega))) | ((with_reducible refine below_via (by with_reducible assumption) ?_ ?_); · (first | exact Nat.le_refl _ | omega | (simp; done) | (simp; omega) | (simp at *; omega))))), by simp⟩ ?_
    rintro Wa ⟨hnx, hba, hsa⟩
    have Ha := Lib.hid (H9.out.later hba)
    have HPa := Lib.hid (HP9.out.later hba)
    have HNa := Lib.hid (HN9.out.later hba)
    have HCa := Lib.hid hnx
    clear hba hnx H9 HP9 HN9
    obtain ⟨s0, s1, s2⟩ := Ha.out.s
    go_wp2_with fail
    refine (Sure_any st _ pA gA pc gc lA st.n lc X _ Ha.out.r Ha.out.l (by omega)).mono ?_
    rintro e wb ⟨rfl, hb⟩
    have esr : st.sureR st.n X = (st.sureI (bagOf X st.n), 0) := by unfold St.sureR; rw [if_neg (by simp [HA.out])]
    rw [esr]
    have Hb := Lib.hid (Ha.out.later hb)
    have HPb := Lib.hid (HPa.out.later hb)
    have HNb := Lib.hid (HNa.out.later hb)
    have HCb := Lib.hid (HCa.out.later hb)
    obtain ⟨sv, hsv⟩ : ∃ sv, st.sureI (bagOf X st.n) = sv := ⟨_, rfl⟩
    rw [hsv]
    have HSV := Lib.hid hsv
    clear hb esr hsv s0 s1 s2 Ha HPa HNa HCa
    obtain ⟨⟨n0, n1⟩, _⟩ := HNb.out
    have eq1 : IntKind.i64.wrap ((q : Int) + 1) = (q : Int) + 1 := IntWalk.i64_in _ (by omega)
    have HO := Lib.hid (⟨HPb.out, HNb.out, HCb.out⟩ : OBox wb W3.heap.size w7.heap.size w9.heap.size (st.P k) mi ma clo chi)
    go_upto_region 15 with fail
    clear n0 n1 HPb HNb HCb
    go_loopw [23, 24, 25, 120] (fun a g m i wr => ∃ (f : Nat) (ls gr : Int) (me : Bool), f ≤ q + 1 ∧ i = .int .i64 f ∧ a = .int .i64 ls ∧ g = .int .i64 gr ∧ m = .bool me ∧ Hid (LRel (st.payAll k q f) ls gr me) ∧ Hid (RAt W wr st w2.heap.size pA gA pc gc lA X rA R) ∧ Hid (OBox wr W3.heap.size w7.heap.size w9.heap.size (st.P k) mi ma clo chi)) (fun _ _ _ i _ => q + 1 - (intOf i).toNat)
    case atStart => exact ⟨0, 0, 0, false, Nat.zero_le _, rfl, rfl, rfl, rfl, Lib.hid (.inl ⟨rfl, rfl, rfl, rfl⟩), Hb, HO⟩
    case round =>
      clear Hb HO
      obtain ⟨f, ls, gr, me, hf, rfl, rfl, rfl, rfl, HL, HR, HO⟩ := hrel
      obtain ⟨wo, rfl⟩ : ∃ wo, wo = wr := ⟨_, rfl⟩
      by_cases hft : f < q + 1
      · have hfi : (f : Int) < (q : Int) + 1 := by omega
        have ef : IntKind.i64.wrap ((f : Int) + 1) = (f : Int) + 1 := IntWalk.i64_in _ (by omega)
        have hq' : (q : Int) ≤ (st.P k).s - (st.P k).o := by rw [HPS.out, HPO.out]; exact hq
        have hoe := open_err HST.out hkn hq' (f := (f : Int)) (by omega)
        have hmc := more_check HST.out hkn (q := (q : Int)) (f := (f : Int)) (by omega) (by omega)
        have hnw : Narrow st (st.more k q f) := more_narrow (by omega)
        have HNW := Lib.hid hnw
        obtain ⟨s0, s1, s2⟩ := HR.out.s
        clear hnw hq'
        go_wp2_with fail
        refine (Open_any st _ pA gA pc gc k q f _ HR.out.r).mono ?_
        rintro e wc ⟨hb, hp⟩
        rw [Int.toNat_natCast, hoe] at hp
        have HRc := Lib.hid (HR.out.later hb)
        have HOc := Lib.hid (HO.out.later hb)
        clear hb hoe s0 s1 s2 HR HO
        rcases hp with ⟨h0, qA, qc, hA, hc, rfl, hop, hog, hqc, hhc⟩ | ⟨h0, rfl⟩
        · have HK2 := Lib.hid (St.check_ok.1 h0)
          have HPY := Lib.hid (payAll_yes h0)
          have hrow : StRow wc wc.heap.size (st.more k q f) qA qc hA hc := StRow.of_own (st := st.more k q f) hop hog (by show st.n ≤ 1000; omega) (by show st.m ≤ 1000; omega) hqc hhc
          have HRW := Lib.hid hrow
          clear hop hog hrow h0 hmc
          go_upto_region 19 with fail
          refine wp_name (fun W1 => StAt W1 wc.heap.size qA st.n qc hA st.m hc st.lots ∧ Below wc.heap.size wc W1 ∧ wc.heap.size + 1 ≤ W1.heap.size) ⟨(by (repeat' refine And.intro ?_ ?_) <;> (repeat (first | (with_reducible assumption) | (simp; done) | (with_reducible refine cell_drew_of ?_) | (with_reducible refine cell_drewN_of ?_) | (with_reducible refine cell_below_of (by with_reducible assumption) ?_) | ((with_reducible refine cell_new_of ?_ ?_) <;> (first | (with_reducible rfl) | (simp; done))) | ((with_reducible refine fro_new_of ?_) <;> (first | (with_reducible rfl) | (simp; done))) | (with_reducible refine cell_alloc_of _ ?_) | (with_reducible refine cell_set_of _ (by (first | exact Nat.le_refl _ | omega | (simp; done) | (simp; omega))) ?_) | (with_reducible refine fro_drew_of ?_) | (with_reducible refine fro_drewN_of ?_) | (with_reducible refine fro_below_of (by with_reducible assumption) (by (first | exact Nat.le_refl _ | omega | (simp; done) | (simp; omega))) ?_) | (with_reducible refine fro_alloc_of _ (by (first | exact Nat.le_refl _ | omega | (simp; done) | (simp; omega))) ?_) | (with_reducible refine fro_set_of _ ?_)))), (by repeat (first | (with_reducible exact Below.refl _ _) | (with_reducible refine Below.drew ?_) | (with_reducible refine below_drewN ?_ _) | ((with_reducible refine below_alloc ?_ ?_ _); · (first | exact Nat.le_refl _ | omega | (simp; done) | (simp; omega) | (simp at *; omega))) | ((with_reducible refine below_set ?_ ?_ _); · (first | exact Nat.le_refl _ | omega | (simp; done) | (simp; omega) | (simp at *; omega))) | ((with_reducible refine below_via (by with_reducible assumption) ?_ ?_); · (first | exact Nat.le_refl _ | omega | (simp; done) | (simp; omega) | (simp at *; omega))))), by simp⟩ ?_
          rintro W1 ⟨hsb, hba, hs1'⟩
          have HR1 := Lib.hid (HRc.out.later hba)
          have HO1 := Lib.hid (HOc.out.later hba)
          have HB1 : Hid (BxAt W1 wc.heap.size (st.more k q f) qA hA qc hc) := Lib.hid ⟨hsb, HRW.out.later2 hba⟩
          clear hsb hba HRW HRc HOc
          obtain ⟨t0, t1, t2⟩ := HB1.out.s
          go_wp2_with fail
          refine (Best_any (st.more k q f) _ qA hA qc hc _ HB1.out.r).mono ?_
          rintro e wd ⟨hb, hp⟩
          rcases hp with ⟨_, dA, dc, rfl, _, _⟩ | ⟨h0, _⟩
          · have HRd := Lib.hid (HR1.out.later hb)
            have HOd := Lib.hid (HO1.out.later hb)
            have HBd := Lib.hid (HB1.out.later hb)
            have hnn := top_nn HK2.out
            obtain ⟨z2, hz2⟩ : ∃ z2, ((st.more k q f).choose (st.more k q f).lots.toNat (st.more k q f).all).2 = z2 := ⟨_, rfl⟩
            have hzt : (st.more k q f).top = z2 := hz2
            rw [hzt] at hnn HPY
            rw [hz2]
            clear hb hz2 hzt t0 t1 t2 HR1 HO1 HB1
            generalize ((st.more k q f).planN (st.more k q f).lots.toNat (st.more k q f).all).length = len2
            obtain ⟨t0, t1, t2⟩ := HBd.out.s
            go_wp2_with fail
            refine (Span_any (st.more k q f) _ qA hA qc hc lA st.n lc X _ HBd.out.r HRd.out.l (by omega)).mono ?_
            rintro e we ⟨rfl, hb⟩
            have HA2 := Lib.hid (lot_ask HK2.out (X := X) (fun i hi => by rw [(HNW.out.p i hi).1]; exact HX.out i hi))
            have esp : (st.more k q f).spanR st.n X = ((st.more k q f).lo (bagOf X st.n), (st.more k q f).hi (bagOf X st.n), 0) := by unfold St.spanR; rw [if_neg (by have := HA2.out; exact fun h => h this)]
            rw [esp]
            have hlo2 := HNW.out.lo (bagOf X st.n)
            have hhi2 := HNW.out.hi (bagOf X st.n)
            rw [HCLO.out] at hlo2
            rw [HCHI.out] at hhi2
            obtain ⟨l2, hl2⟩ : ∃ x, (st.more k q f).lo (bagOf X st.n) = x := ⟨_, rfl⟩
            obtain ⟨u2, hu2⟩ : ∃ x, (st.more k q f).hi (bagOf X st.n) = x := ⟨_, rfl⟩
            rw [hl2] at hlo2 ⊢
            rw [hu2] at hhi2 ⊢
            have hlo3 : ¬ l2 < clo := by omega
            have hhi3 : ¬ chi < u2 := by omega
            have HRe := Lib.hid (HRd.out.later hb)
            have HOe := Lib.hid (HOd.out.later hb)
            have HBe := Lib.hid (HBd.out.later hb)
            clear hb esp hl2 hu2 hlo2 hhi2 t0 t1 t2 HRd HOd HBd
            go_upto_region 21 with fail
            refine wp_name (fun W1 => N2At W1 we.heap.size l2 u2 ∧ Below we.heap.size we W1 ∧ we.heap.size + 1 ≤ W1.heap.size) ⟨(by (repeat' refine And.intro ?_ ?_) <;> (repeat (first | (with_reducible assumption) | (simp; done) | (with_reducible refine cell_drew_of ?_) | (with_reducible refine cell_drewN_of ?_) | (with_reducible refine cell_below_of (by with_reducible assumption) ?_) | ((with_reducible refine cell_new_of ?_ ?_) <;> (first | (with_reducible rfl) | (simp; done))) | ((with_reducible refine fro_new_of ?_) <;> (first | (with_reducible rfl) | (simp; done))) | (with_reducible refine cell_alloc_of _ ?_) | (with_reducible refine cell_set_of _ (by (first | exact Nat.le_refl _ | omega | (simp; done) | (simp; omega))) ?_) | (with_reducible refine fro_drew_of ?_) | (with_reducible refine fro_drewN_of ?_) | (with_reducible refine fro_below_of (by with_reducible assumption) (by (first | exact Nat.le_refl _ | omega | (simp; done) | (simp; omega))) ?_) | (with_reducible refine fro_alloc_of _ (by (first | exact Nat.le_refl _ | omega | (simp; done) | (simp; omega))) ?_) | (with_reducible refine fro_set_of _ ?_)))), (by repeat (first | (with_reducible exact Below.refl _ _) | (with_reducible refine Below.drew ?_) | (with_reducible refine below_drewN ?_ _) | ((with_reducible refine below_alloc ?_ ?_ _); · (first | exact Nat.le_refl _ | omega | (simp; done) | (simp; omega) | (simp at *; omega))) | ((with_reducible refine below_set ?_ ?_ _); · (first | exact Nat.le_refl _ | omega | (simp; done) | (simp; omega) | (simp at *; omega))) | ((with_reducible refine below_via (by with_reducible assumption) ?_ ?_); · (first | exact Nat.le_refl _ | omega | (simp; done) | (simp; omega) | (simp at *; omega))))), by simp⟩ ?_
            rintro Wf ⟨hnx, hba, hsf'⟩
            have HRf := Lib.hid (HRe.out.later hba)
            have HOf := Lib.hid (HOe.out.later hba)
            have HBf := Lib.hid (HBe.out.later hba)
            have HNf := Lib.hid hnx
            clear hnx hba HRe HOe HBe
            obtain ⟨t0, t1, t2⟩ := HBf.out.s
            go_wp2_with fail
            refine (Sure_any (st.more k q f) _ qA hA qc hc lA st.n lc X _ HBf.out.r HRf.out.l (by omega)).mono ?_
            rintro e wg ⟨rfl, hb⟩
            have esr : (st.more k q f).sureR st.n X = ((st.more k q f).sureI (bagOf X st.n), 0) := by unfold St.sureR; rw [if_neg (by have := HA2.out; exact fun h => h this)]
            rw [esr]
            have hsu := HNW.out.sure (bagOf X st.n)
            rw [HSV.out] at hsu
            obtain ⟨v2, hv2⟩ : ∃ x, (st.more k q f).sureI (bagOf X st.n) = x := ⟨_, rfl⟩
            rw [hv2] at hsu ⊢
            have HSU := Lib.hid hsu
            have HRg := Lib.hid (HRf.out.later hb)
            have HOg := Lib.hid (HOf.out.later hb)
            have HNg := Lib.hid (HNf.out.later hb)
            clear hb esr hsu hv2 t0 t1 t2 HRf HOf HBf HNf
            go_upto_region 22 with fail
            go_cut [191] from 121 to 203 (fun c wx => c = .bool false ∧ Hid (RAt W wx st w2.heap.size pA gA pc gc lA X rA R) ∧ Hid (OBox wx W3.heap.size w7.heap.size w9.heap.size (st.P k) mi ma clo chi))
            case rest =>
              obtain ⟨rfl, HRh, HOh⟩ := hcut
              clear HRg HOg HNg HSU hlo3 hhi3
              rcases HL.out with ⟨hL, rfl, rfl, rfl⟩ | ⟨hL, rfl, rfl, rfl⟩
              · have HLN := Lib.hid (LRel.put0 hnn hL)
                clear hL HL
                have hnn' : ¬ z2 < 0 := by omega
                go_wp2_with fail
                go_roundw
                case rel => exact ⟨f + 1, z2, max 0 z2, true, by omega, by go_num, rfl, rfl, rfl, Lib.hid (by rw [HPY.out]; exact HLN.out), HRh, HOh⟩
                case measure => simp [intOf]; omega
              · by_cases hlt : z2 < minL (st.payAll k q f)
                · have HLN := Lib.hid (LRel.put1 hL hlt)
                  clear hL HL
                  go_wp2_with fail
                  go_roundw
                  case rel => exact ⟨f + 1, z2, max (maxL (st.payAll k q f)) z2, true, by omega, by go_num, rfl, rfl, rfl, Lib.hid (by rw [HPY.out]; exact HLN.out), HRh, HOh⟩
                  case measure => simp [intOf]; omega
                · have HLN := Lib.hid (LRel.put2 hL hlt)
                  clear hL HL
                  go_wp2_with fail
                  go_roundw
                  case rel => exact ⟨f + 1, minL (st.payAll k q f), max (maxL (st.payAll k q f)) z2, true, by omega, by go_num, rfl, rfl, rfl, Lib.hid (by rw [HPY.out]; exact HLN.out), HRh, HOh⟩
                  case measure => simp [intOf]; omega
            obtain ⟨⟨n0, n1⟩, _⟩ := HNg.out
            obtain ⟨⟨c0, c1⟩, _⟩ := HOg.out.c
            by_cases hv0 : sv < 0
            · go_wp2_with fail
              go_meet
              exact ⟨by first | rfl | exact congrArg Value.bool (by simp; omega), HRg, HOg⟩
            · have hv1 := HSU.out (by omega)
              have hv2 : ¬ v2 < 0 := by omega
              have hv3 : ¬ sv < v2 := by omega
              clear hv1
              go_wp2_with fail
              go_meet
              exact ⟨by first | rfl | exact congrArg Value.bool (by simp; omega), HRg, HOg⟩
          · exact absurd (St.check_ok.2 HK2.out) h0
        · obtain ⟨h7, _⟩ : (st.more k q f).check = 7 ∧ True := ⟨by rcases hmc with h | h; exact absurd h.1 h0; exact h.1, trivial⟩
          have HPN := Lib.hid (payAll_no h0)
          rw [h7]
          clear h7 h0 hmc
          unfold emptyS
          go_wp2_with fail
          go_roundw
          case rel => exact ⟨f + 1, ls, gr, me, by omega, by go_num, rfl, rfl, rfl, Lib.hid (by rw [HPN.out]; exact HL.out), Lib.hid (HRc.out.later (by repeat (first | (with_reducible exact Below.refl _ _) | (with_reducible refine Below.drew ?_) | (with_reducible refine below_drewN ?_ _) | ((with_reducible refine below_alloc ?_ ?_ _); · (first | exact Nat.le_refl _ | omega | (simp; done) | (simp; omega) | (simp at *; omega))) | ((with_reducible refine below_set ?_ ?_ _); · (first | exact Nat.le_refl _ | omega | (simp; done) | (simp; omega) | (simp at *; omega))) | ((with_reducible refine below_via (by with_reducible assumption) ?_ ?_); · (first | exact Nat.le_refl _ | omega | (simp; done) | (simp; omega) | (simp at *; omega)))))), Lib.hid (HOc.out.later (by repeat (first | (with_reducible exact Below.refl _ _) | (with_reducible refine Below.drew ?_) | (with_reducible refine below_drewN ?_ _) | ((with_reducible refine below_alloc ?_ ?_ _); · (first | exact Nat.le_refl _ | omega | (simp; done) | (simp; omega) | (simp at *; omega))) | ((with_reducible refine below_set ?_ ?_ _); · (first | exact Nat.le_refl _ | omega | (simp; done) | (simp; omega) | (simp at *; omega))) | ((with_reducible refine below_via (by with_reducible assumption) ?_ ?_); · (first | exact Nat.le_refl _ | omega | (simp; done) | (simp; omega) | (simp at *; omega))))))⟩
          case measure => simp [intOf]; omega
      · obtain rfl : f = q + 1 := by omega
        have hge : ¬ ((q + 1 : Nat) : Int) < (q : Int) + 1 := by omega
        obtain ⟨rfl, rfl, rfl⟩ : me = true ∧ ls = mi ∧ gr = ma := by
          rcases HL.out with ⟨h, _⟩ | ⟨_, h1, h2, h3⟩
          · exact absurd h HNE.out
          · exact ⟨h1, h2.trans HMI.out, h3.trans HMA.out⟩
        clear HL
        obtain ⟨⟨n0, n1⟩, _⟩ := HO.out.n
        have hee1 : (ls != ls) = false := by simp
        have hee2 : (gr != gr) = false := by simp
        go_upto_region 28 with fail
        refine region_qbw (by kernel_rfl) (by kernel_rfl) ?_
        have x0 := cell_regrown n0
        have x1 := cell_regrown n1
        clear n0 n1
        repeat (first | go_big_quiet_step ((go_at_call 52; exact Calls.regrown_of (span_fn _ _ _))) | quiet_step ((go_at_call 52; exact Calls.regrown_of (span_fn _ _ _))))
        refine wpQuiet_nil ?_; intro wt hbt
        have HRt := Lib.hid (HR.out.later hbt)
        have HOt := Lib.hid (HO.out.later hbt)
        clear x0 x1 hbt HR HO
        have hgd := HGOOD.out k hkn
        have hrf := really_found HST.out hkn hgd (q := (q : Int)) ⟨by omega, by rw [HPS.out, HPO.out]; exact hq⟩
        have hoe := open_err HST.out hkn (q := q) (by rw [HPS.out, HPO.out]; exact hq) hrf.1
        rw [hrf.2] at hoe
        unfold goodPk at hgd
        rw [HPS.out, HPO.out, HPF.out] at hgd hoe
        obtain ⟨rb, ro, hrA, hrl, r0⟩ := HRt.out.q k hkn
        subst hrA
        obtain ⟨rx, hrx⟩ : ∃ x, R k = x := ⟨_, rfl⟩
        rw [hrx] at r0 hgd hoe
        obtain ⟨p0, p1, p2, p3⟩ := HOt.out.p
        rw [HPF.out] at p3
        have HOE := Lib.hid hoe
        have e3 : IntKind.i64.wrap (rx - pfx) = rx - pfx := IntWalk.i64_in _ (by omega)
        have hk0' : (0 : Int) ≤ (k : Int) := by omega
        clear hrf hoe hrx p0 p1 p2 hrl
        go_upto_region 30 with fail
        refine region_qbw (by kernel_rfl) (by kernel_rfl) ?_
        have x0 := cell_regrown r0
        have x1 := cell_regrown p3
        clear r0 p3
        repeat (first | go_big_quiet_step (fail) | quiet_step (fail))
        refine wpQuiet_nil ?_; intro wu hbu
        have HRu := Lib.hid (HRt.out.later hbu)
        have HOu := Lib.hid (HOt.out.later hbu)
        clear x0 x1 hbu HRt HOt e3
        obtain ⟨p0, p1, p2, p3⟩ := HOu.out.p
        rw [HPS.out] at p0
        rw [HPO.out] at p2
        have e4 : IntKind.i64.wrap (psx - pox) = psx - pox := IntWalk.i64_in _ (by omega)
        have e5 : IntKind.i64.wrap (psx - pox - (q : Int)) = psx - pox - (q : Int) := IntWalk.i64_in _ (by omega)
        have e6 : IntKind.i64.wrap (rx - pfx - (psx - pox - (q : Int))) = rx - pfx - (psx - pox - (q : Int)) := IntWalk.i64_in _ (by omega)
        obtain ⟨s0, s1, s2⟩ := HRu.out.s
        go_wp2_with fail
        refine (Open_any st _ pA gA pc gc k q _ _ HRu.out.r).mono ?_
        rintro e wv ⟨hb, hp⟩
        have Hv := Lib.hid (HRu.out.b.trans (hb.mono HRu.out.b.size))
        rcases hp with ⟨h0, qA, qc, hA, hc, rfl, _, _, _, _⟩ | ⟨h0, rfl⟩
        · clear hb h0 s0 s1 s2 p0 p1 p2 p3 e4 e5 e6 HRu HOu
          go_wp2_with fail
          refine (awake_any _).mono ?_
          rintro e wc ⟨rfl, hb⟩
          have Hc := Lib.hid (Hv.out.trans (hb.mono Hv.out.size))
          clear hb
          go_wp2_with fail
          go_ret
          exact ⟨rfl, Hc.out⟩
        · exact absurd HOE.out h0
  · exact absurd (St.check_ok.2 HST.out) h0
end Go.Proofs.Ytegmomappbehcaa

set_option linter.unusedSimpArgs false
set_option linter.unusedVariables false
namespace Go.Proofs.Ytegmomappbehcaa
open Go.ChangeShapes Go.WideShapes Go.ChangeAt Go.RowKit

set_option maxRecDepth 100000 in
set_option maxHeartbeats 1000000 in
theorem opened_lifted (os : Os) (started : os.Started) (H : Type) (enc : TypeId × Value → H) :
    ReturnsInHanded {} Try.checked os 11 .any (Rows.lotOpenedSpec.pre6 enc Try.prog Try.f11 Rows.lotOpenedRow.domain false) (Rows.lotOpenedSpec.post enc Try.prog Try.f11 false true false false) := by
  refine returnsInHanded_of_change (C := Try.checked) own_knob started (by kernel_rfl) Try.func11
    (ChangeSpec.witness6 (enc := enc) (C := Try.checked) false ⟨#[], #[.slice none 0 0, .int .i64 0, .int .i64 0], []⟩ 8 (by kernel_rfl) (by kernel_rfl) (by kernel_rfl) (by kernel_rfl)) ?_
  intro W base args ds gs before hval0 hW hcnd _
  have hval : ∀ (j : Nat) t v, Try.f11.params[j]? = some t → args[j]? = some v → Value.okWide Try.prog W .any base t v := hval0
  have hW' := hW
  obtain ⟨p, q, hA0, hV, rfl, hfz, hnd⟩ := hW
  have hA : DataW.TrodAll enc Try.prog W 0 (fun _ => true) true Try.f11.params.toList args.toList ds p := hA0
  rw [Try.params11] at hA hval
  obtain ⟨v0, v1, v2, d0, d1, d2, p0, p1, p2, rfl, rfl, rfl, h0, h1, h2⟩ := trodAll_three hA
  obtain ⟨rfl, rfl⟩ := trodVars_none hV
  obtain ⟨a0, n0, c0, rfl⟩ := okWide_slice Try.underlying63 (hval 0 63 v0 rfl rfl)
  have h0k := h0
  obtain ⟨f0, g0⟩ := h0
  obtain ⟨A, n, c, hv, hby0, hmx0⟩ := open_bytes (v := .slice a0 n0 c0) g0
  injection hv with hv1 hv2 hv3
  subst hv1 hv2 hv3
  obtain ⟨k1, rfl, rfl, rfl, w1⟩ := open_int Try.underlying3 (hval 1 3 v1 rfl rfl) h1
  obtain ⟨k2, rfl, rfl, rfl, w2⟩ := open_int Try.underlying3 (hval 2 3 v2 rfl rfl) h2
  clear hA0 hval0
  simp only [List.append_nil] at hW'
  have hlt0 : ∀ x ∈ p0, x.block < W.heap.size := fun x hx => hW'.lt x (by simp [hx])
  refine (opened_law a0 n0 c0 k1 k2 W hby0 (by unfold maxLen at hmx0; omega)).mono fun e W' ⟨he, bel⟩ => ?_
  subst he
  exact ⟨_, rfl, _, _, _, [], _, [], hW', trodAll_mk1 (shut_bool Try.underlying4 true),
    trodAll_mk3 (Below.trod laid_out (by kernel_rfl) (of_decide_eq_true (by kernel_rfl)) h0k bel hlt0) (shut_int Try.underlying3 w1) (shut_int Try.underlying3 w2), rfl, bel.frame _, fun h => by cases h⟩

theorem lot_opened_holds : Rows.LotOpenedSaid :=
  OpenClaim.holds_of_wide 11 Try.f11 rfl rfl rfl rfl rfl rfl rfl ⟨rfl, rfl, rfl, rfl, rfl⟩ rfl rfl rfl rfl rfl (by kernel_rfl) Try.func11 (by kernel_rfl)
    (of_decide_eq_true (by kernel_rfl)) (by unfold Func.isWrapper; first | (rw [if_pos (by decide +kernel)]; kernel_rfl) | (rw [if_neg (by decide +kernel)]; exact ⟨rfl, rfl⟩))
    (fun os started H enc _ => opened_lifted os started H enc)
#print axioms lot_opened_holds
end Go.Proofs.Ytegmomappbehcaa
