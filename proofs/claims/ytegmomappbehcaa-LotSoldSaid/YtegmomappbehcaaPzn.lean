/- The law LotSold: the loop over truths that are tried. -/
import Derived.Test.YtegmomappbehcaaPzm
import Derived.Test.YtegmomappbehcaaWo
import Derived.Test.YtegmomappbehcaaWv
import Derived.Test.YtegmomappbehcaaWz
import Derived.Deep.CutBlock
set_option linter.unusedSimpArgs false
set_option linter.unusedVariables false
namespace Go.Proofs.Ytegmomappbehcaa

theorem first_spec {st : St} {x : Bag} : ∀ r i, i ≤ st.firstFrom x r i ∧ st.firstFrom x r i ≤ i + r ∧ (st.firstFrom x r i < i + r → st.has x (st.G (st.firstFrom x r i)) = true) ∧ ∀ j, i ≤ j → j < st.firstFrom x r i → st.has x (st.G j) = false
  | 0, i => ⟨Nat.le_refl _, Nat.le_refl _, fun h => absurd h (Nat.lt_irrefl _), fun j h1 h2 => absurd h2 (by show ¬ j < i; omega)⟩
  | r + 1, i => by
    unfold St.firstFrom
    by_cases h : st.has x (st.G i) = true
    · rw [if_pos h]
      exact ⟨Nat.le_refl _, by omega, fun _ => h, fun j h1 h2 => by omega⟩
    · rw [if_neg h]
      obtain ⟨h1, h2, h3, h4⟩ := first_spec (st := st) (x := x) r (i + 1)
      refine ⟨by omega, by omega, fun hh => h3 (by omega), fun j g1 g2 => ?_⟩
      by_cases e : j = i
      · subst e; simpa using h
      · exact h4 j (by omega) g2
/-- a greater share of foul sacks holds what a smaller one does -/
theorem has_mono {st : St} {x : Bag} {g g' : Gd} (h : g.foul ≤ g'.foul) (hx : st.has x g = true) : st.has x g' = true := by
  unfold St.has at hx ⊢
  simp only [Bool.and_eq_true, decide_eq_true_iff] at hx ⊢
  refine ⟨hx.1, ?_⟩
  have := Int.mul_le_mul_of_nonneg_right h (Int.le_of_lt hx.1)
  omega
theorem most_key {st : St} {g : Gd} : ∀ (l : List Bag) (o : Bag), (l.foldl (st.mostStep g) o = o ∨ st.has (l.foldl (st.mostStep g) o) g = true) ∧ o.size ≤ (l.foldl (st.mostStep g) o).size ∧ ∀ b, b ∈ l → st.has b g = true → b.size ≤ (l.foldl (st.mostStep g) o).size
  | [], o => ⟨.inl rfl, Int.le_refl _, fun b hb => by cases hb⟩
  | c :: l, o => by
    simp only [List.foldl_cons]
    obtain ⟨h1, h2, h3⟩ := most_key (st := st) (g := g) l (st.mostStep g o c)
    have hs : (st.mostStep g o c = o ∨ st.has (st.mostStep g o c) g = true) ∧ o.size ≤ (st.mostStep g o c).size ∧ (st.has c g = true → c.size ≤ (st.mostStep g o c).size) := by
      unfold St.mostStep
      split
      · rename_i h
        simp only [Bool.and_eq_true, decide_eq_true_iff] at h
        exact ⟨.inr h.2, by omega, fun _ => Int.le_refl _⟩
      · rename_i h
        simp only [Bool.and_eq_true, decide_eq_true_iff, not_and] at h
        refine ⟨.inl rfl, Int.le_refl _, fun hc => ?_⟩
        by_cases e : o.size < c.size
        · exact absurd hc (h e)
        · omega
    refine ⟨?_, by omega, fun b hb hh => ?_⟩
    · rcases h1 with h1 | h1
      · rw [h1]
        exact hs.1
      · exact .inr h1
    · rcases List.mem_cons.1 hb with rfl | hb
      · have := hs.2.2 hh
        omega
      · exact h3 b hb hh
/-- the most of a grade: none that has it is greater -/
theorem most_is {st : St} {g : Gd} : (st.most g = bagZ ∨ st.has (st.most g) g = true) ∧ ∀ b, b.in_ st.all → st.has b g = true → b.size ≤ (st.most g).size :=
  ⟨(most_key (st := st) (g := g) (bagsOf st.all) bagZ).1, fun b hb => (most_key (st := st) (g := g) (bagsOf st.all) bagZ).2.2 b (mem_bagsOf.2 hb)⟩
theorem most_in {st : St} (hst : st.ok) {g : Gd} : (st.most g).in_ st.all := St.mostOf_in hst (fun b hb => mem_bagsOf.1 hb)
/-- a wider grade has no smaller most -/
theorem most_mono {st : St} (hst : st.ok) {g g' : Gd} (h : g.foul ≤ g'.foul) : (st.most g).size ≤ (st.most g').size := by
  rcases (most_is (st := st) (g := g)).1 with e | e
  · rw [e]
    have := (most_key (st := st) (g := g') (bagsOf st.all) bagZ).2.1
    exact this
  · exact (most_is (st := st) (g := g')).2 _ (most_in hst) (has_mono h e)
/-- sacks to spare -/
theorem spare_is {st : St} {x : Bag} {p : Nat} {g : Gd} : ∀ k, (-1 ≤ st.spareN x p g k ∧ st.spareN x p g k ≤ k) ∧ (0 ≤ st.spareN x p g k → st.has (x.set p (x.at p + st.spareN x p g k)) g = true) ∧ ∀ e : Nat, e ≤ k → st.spareN x p g k < (e : Int) → st.has (x.set p (x.at p + (e : Int))) g = false
  | 0 => by
    unfold St.spareN
    by_cases h : st.has (x.set p (x.at p)) g = true
    · rw [if_pos h]
      refine ⟨by omega, fun _ => by rw [Int.add_zero]; exact h, fun e h1 h2 => by omega⟩
    · rw [if_neg h]
      refine ⟨by omega, fun h => by omega, fun e h1 h2 => ?_⟩
      obtain rfl : e = 0 := by omega
      simpa using h
  | k + 1 => by
    unfold St.spareN
    by_cases h : st.has (x.set p (x.at p + ((k + 1 : Nat) : Int))) g = true
    · rw [if_pos h]
      exact ⟨by omega, fun _ => h, fun e h1 h2 => by omega⟩
    · rw [if_neg h]
      obtain ⟨h1, h2, h3⟩ := spare_is (st := st) (x := x) (p := p) (g := g) k
      refine ⟨by omega, h2, fun e g1 g2 => ?_⟩
      by_cases he : e = k + 1
      · subst he; simpa using h
      · exact h3 e (by omega) g2
theorem foul_le {st : St} (hst : st.ok) {i : Nat} : ∀ d, i + d < st.m → (st.G i).foul ≤ (st.G (i + d)).foul
  | 0, _ => Int.le_refl _
  | d + 1, h => by
    have h1 := foul_le hst (i := i) d (by omega)
    have h2 := (hst.up (i + d) (by omega)).1
    show _ ≤ (st.G (i + d + 1)).foul
    omega
/-- it surely has a grade: just where the first that it has is no worse -/
theorem sure_fits {st : St} (hst : st.ok) {x : Bag} {k : Nat} (hk : k < st.m) : (0 ≤ st.sureI x ∧ st.sureI x ≤ (k : Int)) ↔ st.has x (st.G k) = true := by
  obtain ⟨h1, h2, h3, h4⟩ := first_spec (st := st) (x := x) st.m 0
  have e : st.firstFrom x st.m 0 = st.first x := rfl
  rw [e] at h2 h3 h4
  unfold St.sureI
  constructor
  · intro h
    split at h
    · rename_i hf
      obtain ⟨d, hd⟩ : ∃ d, k = st.first x + d := ⟨k - st.first x, by omega⟩
      rw [hd]
      exact has_mono (foul_le hst d (by omega)) (h3 (by omega))
    · omega
  · intro h
    have hf : ¬ k < st.first x := fun hlt => by
      have := h4 k (Nat.zero_le _) hlt
      rw [h] at this
      cases this
    rw [if_pos (by omega)]
    omega
theorem sure_bd {st : St} {x : Bag} : -1 ≤ st.sureI x ∧ st.sureI x < max 1 (st.m : Int) := by
  unfold St.sureI
  split <;> omega
/-- the bag of a lot with one number raised -/
theorem bag_raise {X : Nat → Int} {n k : Nat} (hk : k < n) (h4 : n ≤ 4) (e : Int) : bagOf (fun i => if i = k then X i + e else X i) n = (bagOf X n).set k ((bagOf X n).at k + e) := by
  have h1 : n = 1 ∨ n = 2 ∨ n = 3 ∨ n = 4 := by omega
  have h2 : k = 0 ∨ k = 1 ∨ k = 2 ∨ k = 3 := by omega
  rcases h1 with rfl | rfl | rfl | rfl <;> rcases h2 with rfl | rfl | rfl | rfl <;> first | (exfalso; omega) | (simp [bagOf, bagK, Bag.set, Bag.at]; done)
end Go.Proofs.Ytegmomappbehcaa

set_option linter.unusedSimpArgs false
set_option linter.unusedVariables false
namespace Go.Proofs.Ytegmomappbehcaa

/-- a number of foul sacks of a picking can be -/
def toldC (x : Pk) (m ol oh ll lh n : Int) : Prop := max 0 (n - (x.s - m)) + ol ≤ lh ∧ ll ≤ min n m + oh
theorem toldN_is (x : Pk) (m ol oh ll lh : Int) : ∀ (k : Nat), 0 ≤ x.f → x.f + (k : Int) ≤ 7 → ((toldN x m ol oh ll lh k = (7, -1) ∧ ∀ j : Nat, j < k → ¬ toldC x m ol oh ll lh (x.f + (j : Int))) ∨
    (toldC x m ol oh ll lh (toldN x m ol oh ll lh k).1 ∧ x.f ≤ (toldN x m ol oh ll lh k).1 ∧ (toldN x m ol oh ll lh k).1 ≤ (toldN x m ol oh ll lh k).2 ∧ (toldN x m ol oh ll lh k).2 < x.f + (k : Int) ∧
      ∀ j : Nat, j < k → (toldC x m ol oh ll lh (x.f + (j : Int)) ↔ (toldN x m ol oh ll lh k).1 ≤ x.f + (j : Int) ∧ x.f + (j : Int) ≤ (toldN x m ol oh ll lh k).2)))
  | 0, _, _ => .inl ⟨rfl, fun j hj => absurd hj (by omega)⟩
  | k + 1, h0, h7 => by
    have ih := toldN_is x m ol oh ll lh k h0 (by omega)
    show (toldStep x m ol oh ll lh (x.f + (k : Int)) (toldN x m ol oh ll lh k) = (7, -1) ∧ _) ∨ (toldC x m ol oh ll lh (toldStep x m ol oh ll lh (x.f + (k : Int)) (toldN x m ol oh ll lh k)).1 ∧ x.f ≤ (toldStep x m ol oh ll lh (x.f + (k : Int)) (toldN x m ol oh ll lh k)).1 ∧ (toldStep x m ol oh ll lh (x.f + (k : Int)) (toldN x m ol oh ll lh k)).1 ≤ (toldStep x m ol oh ll lh (x.f + (k : Int)) (toldN x m ol oh ll lh k)).2 ∧ (toldStep x m ol oh ll lh (x.f + (k : Int)) (toldN x m ol oh ll lh k)).2 < x.f + ((k + 1 : Nat) : Int) ∧
      ∀ j : Nat, j < k + 1 → (toldC x m ol oh ll lh (x.f + (j : Int)) ↔ (toldStep x m ol oh ll lh (x.f + (k : Int)) (toldN x m ol oh ll lh k)).1 ≤ x.f + (j : Int) ∧ x.f + (j : Int) ≤ (toldStep x m ol oh ll lh (x.f + (k : Int)) (toldN x m ol oh ll lh k)).2))
    generalize toldN x m ol oh ll lh k = T at ih ⊢
    unfold toldStep
    by_cases hc : max 0 (x.f + (k : Int) - (x.s - m)) + ol ≤ lh ∧ ll ≤ min (x.f + (k : Int)) m + oh
    · rw [if_pos hc]
      right
      rcases ih with ⟨rfl, h1⟩ | ⟨h1, h2, h3, h4, h5⟩
      · refine ⟨?_, ?_, ?_, ?_, fun j hj => ?_⟩
        · show toldC _ _ _ _ _ _ (min 7 (x.f + (k : Int)))
          rw [show min 7 (x.f + (k : Int)) = x.f + (k : Int) by omega]
          exact hc
        · show x.f ≤ min 7 (x.f + (k : Int)); omega
        · show min 7 (x.f + (k : Int)) ≤ x.f + (k : Int); omega
        · show x.f + (k : Int) < x.f + ((k + 1 : Nat) : Int); omega
        · show _ ↔ min 7 (x.f + (k : Int)) ≤ x.f + (j : Int) ∧ x.f + (j : Int) ≤ x.f + (k : Int)
          by_cases e : j = k
          · subst e
            exact ⟨fun _ => by omega, fun _ => hc⟩
          · exact ⟨fun h => absurd h (h1 j (by omega)), fun h => by omega⟩
      · have hmin : min T.1 (x.f + (k : Int)) = T.1 := by omega
        refine ⟨?_, ?_, ?_, ?_, fun j hj => ?_⟩
        · show toldC _ _ _ _ _ _ (min T.1 (x.f + (k : Int))); rw [hmin]; exact h1
        · show x.f ≤ min T.1 (x.f + (k : Int)); omega
        · show min T.1 (x.f + (k : Int)) ≤ x.f + (k : Int); omega
        · show x.f + (k : Int) < x.f + ((k + 1 : Nat) : Int); omega
        · show _ ↔ min T.1 (x.f + (k : Int)) ≤ x.f + (j : Int) ∧ x.f + (j : Int) ≤ x.f + (k : Int)
          rw [hmin]
          by_cases e : j = k
          · subst e
            exact ⟨fun _ => by omega, fun _ => hc⟩
          · refine ⟨fun h => ?_, fun h => ?_⟩
            · have := (h5 j (by omega)).1 h
              omega
            · unfold toldC at h1 ⊢
              omega
    · rw [if_neg hc]
      rcases ih with ⟨rfl, h1⟩ | ⟨h1, h2, h3, h4, h5⟩
      · refine .inl ⟨rfl, fun j hj => ?_⟩
        by_cases e : j = k
        · subst e; exact hc
        · exact h1 j (by omega)
      · refine .inr ⟨h1, h2, h3, by omega, fun j hj => ?_⟩
        by_cases e : j = k
        · subst e
          exact ⟨fun h => absurd h hc, fun h => by omega⟩
        · exact h5 j (by omega)
/-- what is told of a picking: just what can be -/
theorem toldN_all {x : Pk} (hx : x.rng) (m ol oh ll lh n : Int) (hn : x.f ≤ n ∧ n ≤ x.hi) : (toldC x m ol oh ll lh n ↔ (toldN x m ol oh ll lh x.wide).1 ≤ n ∧ n ≤ (toldN x m ol oh ll lh x.wide).2) ∧
    ((∃ n, x.f ≤ n ∧ n ≤ x.hi ∧ toldC x m ol oh ll lh n) → x.f ≤ (toldN x m ol oh ll lh x.wide).1 ∧ (toldN x m ol oh ll lh x.wide).2 ≤ x.hi) := by
  have hb := Pk.hi_bd hx
  unfold Pk.rng at hx
  have hw : (x.wide : Int) = x.hi - x.f + 1 := by unfold Pk.wide; omega
  obtain ⟨j, hj⟩ := Int.eq_ofNat_of_zero_le (show 0 ≤ n - x.f by omega)
  have hjw : j < x.wide := by omega
  have e : n = x.f + (j : Int) := by omega
  rcases toldN_is x m ol oh ll lh x.wide (by omega) (by omega) with ⟨h1, h2⟩ | ⟨h1, h2, h3, h4, h5⟩
  · rw [h1, e]
    refine ⟨⟨fun h => absurd h (h2 j hjw), fun h => by dsimp only at h; omega⟩, fun ⟨n', g1, g2, g3⟩ => ?_⟩
    obtain ⟨i, hi⟩ := Int.eq_ofNat_of_zero_le (show 0 ≤ n' - x.f by omega)
    have e' : n' = x.f + (i : Int) := by omega
    rw [e'] at g3
    exact absurd g3 (h2 i (by omega))
  · rw [e]
    exact ⟨h5 j hjw, fun _ => ⟨h2, by omega⟩⟩
/-- the sum of all but one -/
def sumX (i : Nat) (g : Nat → Int) (n : Nat) : Int := sumN (fun k => if k = i then 0 else g k) n
theorem sumX_split (i : Nat) (g : Nat → Int) : ∀ n, sumN g n = (if i < n then g i else 0) + sumX i g n
  | 0 => by simp [sumN, sumX]
  | n + 1 => by
    have ih := sumX_split i g n
    show sumN g n + g n = _ + (sumX i g n + if n = i then 0 else g n)
    by_cases e : n = i
    · subst e
      rw [if_neg (by omega)] at ih
      rw [if_pos rfl, if_pos (by omega)]
      omega
    · rw [if_neg e]
      by_cases h : i < n
      · rw [if_pos h] at ih; rw [if_pos (by omega)]; omega
      · rw [if_neg h] at ih; rw [if_neg (by omega)]; omega
theorem sumX_le {i : Nat} {f g : Nat → Int} {n : Nat} (h : ∀ k, k < n → f k ≤ g k) : sumX i f n ≤ sumX i g n :=
  sumN_le (fun k hk => by split; exact Int.le_refl _; exact h k hk)
/-- a truth of a made store, and a sample that fits it -/
structure ToldOk (st : St) (X R Y : Nat → Int) (o F : Int) : Prop where
  ok : st.ok
  x : ∀ k, k < st.n → 0 ≤ X k ∧ X k ≤ (st.P k).s
  r : ∀ k, k < st.n → (st.P k).f ≤ R k ∧ R k ≤ (st.P k).hi
  y : ∀ k, k < st.n → max 0 (R k - ((st.P k).s - X k)) ≤ Y k ∧ Y k ≤ min (X k) (R k)
  ho : 0 ≤ o ∧ o ≤ sumN X st.n
  hf : max 0 (o - (sumN X st.n - sumN Y st.n)) ≤ F ∧ F ≤ min o (sumN Y st.n)
def loX (st : St) (X : Nat → Int) (k : Nat) : Int := (st.P k).loOf (X k)
def hiX (st : St) (X : Nat → Int) (k : Nat) : Int := (st.P k).hiOf (X k)
theorem lo_sum {st : St} {X : Nat → Int} (h4 : st.n ≤ 4) : st.lo (bagOf X st.n) = sumN (loX st X) st.n := sumN_congr (fun k hk => by show (st.P k).loOf _ = _; rw [bagOf_at hk (by omega)]; rfl)
theorem hi_sum2 {st : St} {X : Nat → Int} (h4 : st.n ≤ 4) : st.hi (bagOf X st.n) = sumN (hiX st X) st.n := sumN_congr (fun k hk => by show (st.P k).hiOf _ = _; rw [bagOf_at hk (by omega)]; rfl)
theorem ToldOk.ys {st : St} {X R Y : Nat → Int} {o F : Int} (h : ToldOk st X R Y o F) : ∀ k, k < st.n → loX st X k ≤ Y k ∧ Y k ≤ hiX st X k ∧ Y k ≤ X k ∧ 0 ≤ Y k := fun k hk => by
  have h1 := h.x k hk
  have h2 := h.r k hk
  have h3 := h.y k hk
  have h4 := h.ok.pk k hk
  unfold Pk.rng at h4
  unfold loX hiX Pk.loOf Pk.hiOf
  omega
/-- no error, and the foul sacks lie in what is left -/
theorem ToldOk.left {st : St} {X R Y : Nat → Int} {o F : Int} (h : ToldOk st X R Y o F) : max (sumN (loX st X) st.n) F ≤ sumN Y st.n ∧ sumN Y st.n ≤ min (sumN (hiX st X) st.n) (sumN X st.n - o + F) ∧ 0 ≤ F ∧ F ≤ o := by
  have h1 := sumN_le (f := loX st X) (g := Y) (n := st.n) (fun k hk => (h.ys k hk).1)
  have h2 := sumN_le (f := Y) (g := hiX st X) (n := st.n) (fun k hk => (h.ys k hk).2.1)
  have h3 := h.hf
  have h4 := h.ho
  omega
/-- what is really foul is told -/
theorem ToldOk.real {st : St} {X R Y : Nat → Int} {o F : Int} (h : ToldOk st X R Y o F) {i : Nat} (hi : i < st.n) : toldC (st.P i) (X i) (sumX i (loX st X) st.n) (sumX i (hiX st X) st.n) (max (sumN (loX st X) st.n) F) (min (sumN (hiX st X) st.n) (sumN X st.n - o + F)) (R i) := by
  have h1 := sumX_le (i := i) (f := loX st X) (g := Y) (n := st.n) (fun k hk => (h.ys k hk).1)
  have h2 := sumX_le (i := i) (f := Y) (g := hiX st X) (n := st.n) (fun k hk => (h.ys k hk).2.1)
  have h3 := h.left
  have h4 := sumX_split i Y st.n
  rw [if_pos hi] at h4
  have h5 := h.y i hi
  unfold toldC
  omega
/-- without a sample nothing is told -/
theorem told_none {st : St} {X : Nat → Int} (hst : st.ok) (hx : ∀ k, k < st.n → 0 ≤ X k ∧ X k ≤ (st.P k).s) {i : Nat} (hi : i < st.n) {n : Int} (hn : (st.P i).f ≤ n ∧ n ≤ (st.P i).hi) :
    toldC (st.P i) (X i) (sumX i (loX st X) st.n) (sumX i (hiX st X) st.n) (max (sumN (loX st X) st.n) 0) (min (sumN (hiX st X) st.n) (sumN X st.n - 0 + 0)) n := by
  have hle : ∀ k, k < st.n → loX st X k ≤ hiX st X k ∧ 0 ≤ loX st X k ∧ hiX st X k ≤ X k := fun k hk => by
    have h1 := hx k hk
    have h2 := hst.sp k hk
    have h4 := hst.pk k hk
    unfold Pk.rng at h4
    unfold Pk.hi at h2
    unfold loX hiX Pk.loOf Pk.hiOf Pk.hi
    omega
  have h1 := sumX_le (i := i) (f := loX st X) (g := hiX st X) (n := st.n) (fun k hk => (hle k hk).1)
  have h2 := sumX_split i (loX st X) st.n
  have h3 := sumX_split i (hiX st X) st.n
  rw [if_pos hi] at h2 h3
  have h5 := sumN_le (f := hiX st X) (g := X) (n := st.n) (fun k hk => (hle k hk).2.2)
  have h6 : 0 ≤ sumX i (hiX st X) st.n := by
    have := sumN_bd2 (fun k => if k = i then 0 else hiX st X k) st.n 1000000000 (fun k hk => by
      have g1 := hle k hk
      have g2 := hx k hk
      have g3 := (hst.pk k hk).1
      split
      · omega
      · omega)
    exact this.1
  have h7 := hle i hi
  have h8 := hst.pk i hi
  have h9 := hx i hi
  unfold Pk.rng at h8
  have e1 : loX st X i = max 0 ((st.P i).f - ((st.P i).s - X i)) := rfl
  have e2 : hiX st X i = min (X i) (st.P i).hi := rfl
  have e3 : (st.P i).hi ≤ (st.P i).w := by unfold Pk.hi; omega
  unfold toldC
  omega
end Go.Proofs.Ytegmomappbehcaa

set_option linter.unusedSimpArgs false
set_option linter.unusedVariables false
namespace Go.Proofs.Ytegmomappbehcaa
open Go.RowKit Go.Shelf

/-- the truth that Bad tells is possible -/
theorem St.bad_possS {st : St} {X : Nat → Int} (h0 : st.askErr st.n X = 0) : st.possR st.n X st.n st.n (fun k => (st.P k).hi) (fun k => (st.P k).hiOf (X k)) = (true, 0) := by
  have hok := (St.askErr_ok h0).1
  unfold St.possR
  rw [if_neg (by simp [h0]), if_neg (by simp)]
  congr 1
  refine allN_iff.2 (fun k hk => ?_)
  have h1 := hok.pk k hk
  have h2 := hok.sp k hk
  have h3 := ask_rng h0 k hk
  unfold Pk.rng at h1
  unfold posB Pk.can Pk.hiOf inB
  unfold Pk.hi at h2 ⊢
  simp only [Bool.and_eq_true, decide_eq_true_eq]
  omega
/-- a truth about a lot is possible, lies in the span -/
theorem St.truth_poss {st : St} {X F Y : Nat → Int} (h0 : st.askErr st.n X = 0) (hF : ∀ k, k < st.n → (st.P k).f ≤ F k ∧ F k ≤ (st.P k).hi) (hY : ∀ k, k < st.n → max 0 (F k - ((st.P k).s - X k)) ≤ Y k ∧ Y k ≤ min (X k) (F k)) :
    st.possR st.n X st.n st.n F Y = (true, 0) ∧ st.lo (bagOf X st.n) ≤ sumN Y st.n ∧ sumN Y st.n ≤ st.hi (bagOf X st.n) := by
  have hok := (St.askErr_ok h0).1
  have h4 := hok.n4
  refine ⟨?_, ?_, ?_⟩
  · unfold St.possR
    rw [if_neg (by simp [h0]), if_neg (by simp)]
    congr 1
    refine allN_iff.2 (fun k hk => ?_)
    have h1 := hok.pk k hk
    have h2 := hF k hk
    have h3 := ask_rng h0 k hk
    have h5 := hY k hk
    unfold Pk.rng at h1
    unfold posB Pk.can inB
    simp only [Bool.and_eq_true, decide_eq_true_eq]
    omega
  · rw [lo_sum h4]
    refine sumN_le (fun k hk => ?_)
    have h2 := hF k hk
    have h5 := hY k hk
    show max 0 ((st.P k).f - ((st.P k).s - X k)) ≤ Y k
    omega
  · rw [hi_sum2 h4]
    refine sumN_le (fun k hk => ?_)
    have h2 := hF k hk
    have h5 := hY k hk
    show Y k ≤ min (X k) (st.P k).hi
    omega
/-- a made store beside a later chute, its real numbers, a lot and its span -/
structure SoAt (W w : World) (B qb lo : Nat) (st : St) (bx : Nat) (pA gA : Option Addr) (pc gc : Nat) (tA : Option Addr) (tn tc : Nat) (rA : Option Addr) (R : Nat → Int) (lA : Option Addr) (X : Nat → Int) (bs : Nat) (clo chi : Int) : Prop where
  m : MAt W w B qb st bx pA gA pc gc tA tn tc
  q : IntRow w B rA st.n R
  l : OwnInt w lo lA st.n X
  h : qb < lo
  n : N2At w bs clo chi
  hs : lo ≤ bs
theorem SoAt.gr {W w w' : World} {B qb lo : Nat} {st : St} {bx : Nat} {pA gA : Option Addr} {pc gc : Nat} {tA : Option Addr} {tn tc : Nat} {rA : Option Addr} {R : Nat → Int} {lA : Option Addr} {X : Nat → Int} {bs : Nat} {clo chi : Int} (h : SoAt W w B qb lo st bx pA gA pc gc tA tn tc rA R lA X bs clo chi) (hm : MAt W w' B qb st bx pA gA pc gc tA tn tc) (hg : w.grownBy w' (some qb)) : SoAt W w' B qb lo st bx pA gA pc gc tA tn tc rA R lA X bs clo chi := by
  have h1 := h.h
  have h2 := h.m.hB
  have h3 := h.hs
  exact ⟨hm, h.q.below (gb_below hg h.m.r.lt h2), h.l.keep (fun i a b => hg.block i b (fun e => by injection e with e; omega)), h1, h.n.same (hg.block _ (World.block_lt_of_cell? w _ h.n.1.1) (fun e => by injection e with e; omega)), h3⟩
theorem SoAt.later {W w w' : World} {B qb lo : Nat} {st : St} {bx : Nat} {pA gA : Option Addr} {pc gc : Nat} {tA : Option Addr} {tn tc : Nat} {rA : Option Addr} {R : Nat → Int} {lA : Option Addr} {X : Nat → Int} {bs : Nat} {clo chi : Int} (h : SoAt W w B qb lo st bx pA gA pc gc tA tn tc rA R lA X bs clo chi) (hb : Below w.heap.size w w') : SoAt W w' B qb lo st bx pA gA pc gc tA tn tc rA R lA X bs clo chi := h.gr (h.m.later hb) (gb_of_below qb hb)
theorem SoAt.keep {W w w' : World} {B qb lo : Nat} {st : St} {bx : Nat} {pA gA : Option Addr} {pc gc : Nat} {tA : Option Addr} {tn tc : Nat} {rA : Option Addr} {R : Nat → Int} {lA : Option Addr} {X : Nat → Int} {bs : Nat} {clo chi : Int} (h : SoAt W w B qb lo st bx pA gA pc gc tA tn tc rA R lA X bs clo chi) (hg : w.grownBy w' (some qb)) (hc : Chute w' W.heap.size qb tA tn tc) : SoAt W w' B qb lo st bx pA gA pc gc tA tn tc rA R lA X bs clo chi := h.gr (h.m.keep hg hc) hg

set_option maxRecDepth 100000 in
set_option maxHeartbeats 8000000 in
/-- the loop over the grades -/
theorem sold_loop2 (W : World) (B qb lo : Nat) (st : St) (bx : Nat) (pA gA : Option Addr) (pc gc : Nat) (tA : Option Addr) (tn tc : Nat) (rA : Option Addr) (R : Nat → Int) (lA : Option Addr) (X : Nat → Int) (bs : Nat) (clo chi sz sv : Int) (HST : Hid st.ok) (hm : 1 ≤ st.m ∧ st.m ≤ 3) (hsz : 0 ≤ sz ∧ sz ≤ 24) (hch : 0 ≤ chi ∧ chi ≤ 24) (HF : Hid (∀ k, k < st.m → ((0 ≤ sv ∧ sv ≤ (k : Int)) ↔ (0 < sz ∧ 100 * chi ≤ (st.G k).foul * sz)))) {u0 u1 u2 u3 u4 u6 u7 u8 u11 u13 u14 u15 u16 u17 u18 u19 u20 u21 u22 u23 u24 u25 u26 u27 u28 u29 u30 u31 u32 u33 u34 u35 u36 u37 u38 u39 u40 u41 u42 u43 u44 u45 u46 u47 u48 u49 u50 u51 u52 u53 u54 u55 u56 u57 u58 u59 u60 u61 u62 u63 u64 u65 u66 u67 u68 u69 u70 u71 u72 u73 u74 u75 u76 u77 u78 u79 u80 u81 u82 u83 u84 u85 u86 u87 u88 u89 u90 u91 u92 u93 u94 u95 u96 u97 u98 u99 u100 u101 u102 u103 u104 u105 u106 u107 u108 u109 u110 u111 u112 u113 u114 u115 u116 u117 u118 u119 u120 u121 u122 u123 u124 u125 u126 u127 u128 u129 u130 u131 u132 u133 u134 u135 u136 u137 u138 u139 u140 u141 u142 u143 u144 u145 u146 u147 u148 u152 u153 u154 u155 u156 u157 u158 u159 u160 u161 u162 u163 u164 u165 u166 u167 u168 u169 u170 u171 u172 u173 u174 u175 u176 u177 u178 u179 u180 u181 u182 u183 u184 u185 u186 u187 u188 u189 u190 u191 u192 u193 u194 u195 u196 u197 u198 u199 u200 u201 u202 u203 u204 u205 u206 u207 u208 u209 u210 u211 u212 u213 u214 u215 u216 u217 u218 u219 u220 u221 u222 u223 u224 u225 u226 u227 u228 u229 u230 u231 u232 u233 u234 u235 u236 u237 u238 u239 u240 u241 u242 u243 u244 u245 u246 u247 u248 u249 u250 u251 u252 u253 u254 u255 u256 u257 u258 u259 u260 u261 u262 u263 u264 u265 u266 u267 : Value} (w : World) (H0 : Hid (SoAt W w B qb lo st bx pA gA pc gc tA tn tc rA R lA X bs clo chi))
    (Q : Exit → Act → World → Prop) (hK : ∀ {x4 x22 x23 x24 x151 x152 x153 x154 x155 x156 x157 x158 x159 x160 x161 x162 x163 x164 x165 x166 x167 x168 x169 x170 x171 x172 x173 x174 x175 x176 x177 : Value} (w' : World), Hid (SoAt W w' B qb lo st bx pA gA pc gc tA tn tc rA R lA X bs clo chi) → Q .normal ⟨(List.toArray (u0 :: u1 :: u2 :: u3 :: x4 :: (.pointer (some ⟨bx, 0, none⟩)) :: u6 :: u7 :: u8 :: (.int .i64 sz) :: (.pointer (some ⟨bs, 0, none⟩)) :: u11 :: (.int .i64 sv) :: u13 :: u14 :: u15 :: u16 :: u17 :: u18 :: u19 :: u20 :: u21 :: x22 :: x23 :: x24 :: u25 :: u26 :: u27 :: u28 :: u29 :: u30 :: u31 :: u32 :: u33 :: u34 :: u35 :: u36 :: u37 :: u38 :: u39 :: u40 :: u41 :: u42 :: u43 :: u44 :: u45 :: u46 :: u47 :: u48 :: u49 :: u50 :: u51 :: u52 :: u53 :: u54 :: u55 :: u56 :: u57 :: u58 :: u59 :: u60 :: u61 :: u62 :: u63 :: u64 :: u65 :: u66 :: u67 :: u68 :: u69 :: u70 :: u71 :: u72 :: u73 :: u74 :: u75 :: u76 :: u77 :: u78 :: u79 :: u80 :: u81 :: u82 :: u83 :: u84 :: u85 :: u86 :: u87 :: u88 :: u89 :: u90 :: u91 :: u92 :: u93 :: u94 :: u95 :: u96 :: u97 :: u98 :: u99 :: u100 :: u101 :: u102 :: u103 :: u104 :: u105 :: u106 :: u107 :: u108 :: u109 :: u110 :: u111 :: u112 :: u113 :: u114 :: u115 :: u116 :: u117 :: u118 :: u119 :: u120 :: u121 :: u122 :: u123 :: u124 :: u125 :: u126 :: u127 :: u128 :: u129 :: u130 :: u131 :: u132 :: u133 :: u134 :: u135 :: u136 :: u137 :: u138 :: u139 :: u140 :: u141 :: u142 :: u143 :: u144 :: u145 :: u146 :: u147 :: u148 :: (.slice gA st.m gc) :: (.int .i64 st.m) :: x151 :: x152 :: x153 :: x154 :: x155 :: x156 :: x157 :: x158 :: x159 :: x160 :: x161 :: x162 :: x163 :: x164 :: x165 :: x166 :: x167 :: x168 :: x169 :: x170 :: x171 :: x172 :: x173 :: x174 :: x175 :: x176 :: x177 :: u178 :: u179 :: u180 :: u181 :: u182 :: u183 :: u184 :: u185 :: u186 :: u187 :: u188 :: u189 :: u190 :: u191 :: u192 :: u193 :: u194 :: u195 :: u196 :: u197 :: u198 :: u199 :: u200 :: u201 :: u202 :: u203 :: u204 :: u205 :: u206 :: u207 :: u208 :: u209 :: u210 :: u211 :: u212 :: u213 :: u214 :: u215 :: u216 :: u217 :: u218 :: u219 :: u220 :: u221 :: u222 :: u223 :: u224 :: u225 :: u226 :: u227 :: u228 :: u229 :: u230 :: u231 :: u232 :: u233 :: u234 :: u235 :: u236 :: u237 :: u238 :: u239 :: u240 :: u241 :: u242 :: u243 :: u244 :: u245 :: u246 :: u247 :: u248 :: u249 :: u250 :: u251 :: u252 :: u253 :: u254 :: u255 :: u256 :: u257 :: u258 :: u259 :: u260 :: u261 :: u262 :: u263 :: u264 :: u265 :: u266 :: u267 :: [])), []⟩ w') :
    Code.wp Try.prog (blkIn Try.f15 2) Q ⟨(List.toArray (u0 :: u1 :: u2 :: u3 :: u4 :: (.pointer (some ⟨bx, 0, none⟩)) :: u6 :: u7 :: u8 :: (.int .i64 sz) :: (.pointer (some ⟨bs, 0, none⟩)) :: u11 :: (.int .i64 sv) :: u13 :: u14 :: u15 :: u16 :: u17 :: u18 :: u19 :: u20 :: u21 :: u22 :: u23 :: u24 :: u25 :: u26 :: u27 :: u28 :: u29 :: u30 :: u31 :: u32 :: u33 :: u34 :: u35 :: u36 :: u37 :: u38 :: u39 :: u40 :: u41 :: u42 :: u43 :: u44 :: u45 :: u46 :: u47 :: u48 :: u49 :: u50 :: u51 :: u52 :: u53 :: u54 :: u55 :: u56 :: u57 :: u58 :: u59 :: u60 :: u61 :: u62 :: u63 :: u64 :: u65 :: u66 :: u67 :: u68 :: u69 :: u70 :: u71 :: u72 :: u73 :: u74 :: u75 :: u76 :: u77 :: u78 :: u79 :: u80 :: u81 :: u82 :: u83 :: u84 :: u85 :: u86 :: u87 :: u88 :: u89 :: u90 :: u91 :: u92 :: u93 :: u94 :: u95 :: u96 :: u97 :: u98 :: u99 :: u100 :: u101 :: u102 :: u103 :: u104 :: u105 :: u106 :: u107 :: u108 :: u109 :: u110 :: u111 :: u112 :: u113 :: u114 :: u115 :: u116 :: u117 :: u118 :: u119 :: u120 :: u121 :: u122 :: u123 :: u124 :: u125 :: u126 :: u127 :: u128 :: u129 :: u130 :: u131 :: u132 :: u133 :: u134 :: u135 :: u136 :: u137 :: u138 :: u139 :: u140 :: u141 :: u142 :: u143 :: u144 :: u145 :: u146 :: u147 :: u148 :: (.slice gA st.m gc) :: (.int .i64 st.m) :: (.int .i64 0) :: u152 :: u153 :: u154 :: u155 :: u156 :: u157 :: u158 :: u159 :: u160 :: u161 :: u162 :: u163 :: u164 :: u165 :: u166 :: u167 :: u168 :: u169 :: u170 :: u171 :: u172 :: u173 :: u174 :: u175 :: u176 :: u177 :: u178 :: u179 :: u180 :: u181 :: u182 :: u183 :: u184 :: u185 :: u186 :: u187 :: u188 :: u189 :: u190 :: u191 :: u192 :: u193 :: u194 :: u195 :: u196 :: u197 :: u198 :: u199 :: u200 :: u201 :: u202 :: u203 :: u204 :: u205 :: u206 :: u207 :: u208 :: u209 :: u210 :: u211 :: u212 :: u213 :: u214 :: u215 :: u216 :: u217 :: u218 :: u219 :: u220 :: u221 :: u222 :: u223 :: u224 :: u225 :: u226 :: u227 :: u228 :: u229 :: u230 :: u231 :: u232 :: u233 :: u234 :: u235 :: u236 :: u237 :: u238 :: u239 :: u240 :: u241 :: u242 :: u243 :: u244 :: u245 :: u246 :: u247 :: u248 :: u249 :: u250 :: u251 :: u252 :: u253 :: u254 :: u255 :: u256 :: u257 :: u258 :: u259 :: u260 :: u261 :: u262 :: u263 :: u264 :: u265 :: u266 :: u267 :: [])), []⟩ w := by
  (conv => arg 2; whnf)
  go_wp2_with fail
  go_loopw [151] (fun v wr => ∃ k : Nat, k ≤ st.m ∧ v = .int .i64 k ∧ Hid (SoAt W wr B qb lo st bx pA gA pc gc tA tn tc rA R lA X bs clo chi)) (fun v _ => st.m - (intOf v).toNat)
  case atStart => exact ⟨0, Nat.zero_le _, rfl, H0⟩
  case round =>
    clear H0
    obtain ⟨k, hk, rfl, HR⟩ := hrel
    obtain ⟨wo, rfl⟩ : ∃ wo, wo = wr := ⟨_, rfl⟩
    by_cases hlt : k < st.m
    · have hki : (k : Int) < (st.m : Int) := by omega
      have hk0 : (0 : Int) ≤ (k : Int) := by omega
      have ek : IntKind.i64.wrap ((k : Int) + 1) = (k : Int) + 1 := IntWalk.i64_in _ (by omega)
      have hif := HF.out k hlt
      have hgd := (HST.out.gd k hlt).1
      obtain ⟨gb, go, hgA, hgl, g0, g1⟩ := HR.out.m.r.g k hlt
      subst hgA
      obtain ⟨fo, hfo⟩ : ∃ f, (st.G k).foul = f := ⟨_, rfl⟩
      rw [hfo] at hif hgd g0
      have HFO := Lib.hid hfo
      clear hfo
      go_upto_region 24 with fail
      refine wp_name (fun W1 => W1.cell? ⟨wo.heap.size, 0, none⟩ = some (.int .i64 fo) ∧ Below wo.heap.size wo W1 ∧ wo.heap.size + 1 ≤ W1.heap.size) ⟨(by (repeat' refine And.intro ?_ ?_) <;> (repeat (first | (with_reducible assumption) | (simp; done) | (with_reducible refine cell_drew_of ?_) | (with_reducible refine cell_drewN_of ?_) | (with_reducible refine cell_below_of (by with_reducible assumption) ?_) | ((with_reducible refine cell_new_of ?_ ?_) <;> (first | (with_reducible rfl) | (simp; done))) | ((with_reducible refine fro_new_of ?_) <;> (first | (with_reducible rfl) | (simp; done))) | (with_reducible refine cell_alloc_of _ ?_) | (with_reducible refine cell_set_of _ (by (first | exact Nat.le_refl _ | omega | (simp; done) | (simp; omega))) ?_) | (with_reducible refine fro_drew_of ?_) | (with_reducible refine fro_drewN_of ?_) | (with_reducible refine fro_below_of (by with_reducible assumption) (by (first | exact Nat.le_refl _ | omega | (simp; done) | (simp; omega))) ?_) | (with_reducible refine fro_alloc_of _ (by (first | exact Nat.le_refl _ | omega | (simp; done) | (simp; omega))) ?_) | (with_reducible refine fro_set_of _ ?_)))), (by repeat (first | (with_reducible exact Below.refl _ _) | (with_reducible refine Below.drew ?_) | (with_reducible refine below_drewN ?_ _) | ((with_reducible refine below_alloc ?_ ?_ _); · (first | exact Nat.le_refl _ | omega | (simp; done) | (simp; omega) | (simp at *; omega))) | ((with_reducible refine below_set ?_ ?_ _); · (first | exact Nat.le_refl _ | omega | (simp; done) | (simp; omega) | (simp at *; omega))) | ((with_reducible refine below_via (by with_reducible assumption) ?_ ?_); · (first | exact Nat.le_refl _ | omega | (simp; done) | (simp; omega) | (simp at *; omega))))), by simp⟩ ?_
      rintro w1 ⟨c0, hba, hs1⟩
      have HR1 := Lib.hid (HR.out.later hba)
      clear hba g0 g1 HR
      obtain ⟨⟨n0, n1⟩, _⟩ := HR1.out.n
      have hmul := mul_bd hgd hsz
      have e1 : IntKind.i64.wrap (fo * sz) = fo * sz := IntWalk.i64_in _ (by omega)
      have e2 : IntKind.i64.wrap (100 * chi) = 100 * chi := IntWalk.i64_in _ (by omega)
      obtain ⟨fs, hfs⟩ : ∃ q, fo * sz = q := ⟨_, rfl⟩
      rw [hfs] at hif hmul e1
      have HFS := Lib.hid hfs
      by_cases h1 : 100 * chi ≤ fs <;> by_cases h2 : 0 < sz <;> by_cases h3 : 0 ≤ sv <;> by_cases h4 : sv ≤ (k : Int)
      all_goals first | (exfalso; omega) | skip
      all_goals
        clear hif hmul
        have h1' := h1
        clear h1
        rw [← hfs] at h1' e1
        clear hfs
        go_wp2_with fail
        go_roundw
        case rel => exact ⟨k + 1, by omega, by go_num, HR1⟩
        case measure => simp [intOf]; omega
    · obtain rfl : k = st.m := by omega
      have hge : ¬ (st.m : Int) < (st.m : Int) := by omega
      go_wp2_with fail
end Go.Proofs.Ytegmomappbehcaa

set_option linter.unusedSimpArgs false
set_option linter.unusedVariables false
namespace Go.Proofs.Ytegmomappbehcaa
open Go.RowKit Go.Shelf

/-- a list of numbers in its own block, beside it -/
structure SfAt (W w : World) (B qb lo : Nat) (st : St) (bx : Nat) (pA gA : Option Addr) (pc gc : Nat) (tA : Option Addr) (tn tc : Nat) (rA : Option Addr) (R : Nat → Int) (lA : Option Addr) (X : Nat → Int) (bs : Nat) (clo chi : Int) (l2 fb : Nat) (F : Nat → Int) : Prop where
  o : SoAt W w B qb lo st bx pA gA pc gc tA tn tc rA R lA X bs clo chi
  f : OwnInt w l2 (some ⟨fb, 0, none⟩) st.n F
  h : bs < l2 ∧ qb < l2 ∧ lo ≤ l2
  lb : ∀ b, lA = some ⟨b, 0, none⟩ → b < l2
theorem SfAt.later {W w w' : World} {B qb lo : Nat} {st : St} {bx : Nat} {pA gA : Option Addr} {pc gc : Nat} {tA : Option Addr} {tn tc : Nat} {rA : Option Addr} {R : Nat → Int} {lA : Option Addr} {X : Nat → Int} {bs : Nat} {clo chi : Int} {l2 fb : Nat} {F : Nat → Int} (h : SfAt W w B qb lo st bx pA gA pc gc tA tn tc rA R lA X bs clo chi l2 fb F) (hb : Below w.heap.size w w') : SfAt W w' B qb lo st bx pA gA pc gc tA tn tc rA R lA X bs clo chi l2 fb F :=
  ⟨h.o.later hb, h.f.later hb, h.h, h.lb⟩
theorem SfAt.keep {W w w' : World} {B qb lo : Nat} {st : St} {bx : Nat} {pA gA : Option Addr} {pc gc : Nat} {tA : Option Addr} {tn tc : Nat} {rA : Option Addr} {R : Nat → Int} {lA : Option Addr} {X : Nat → Int} {bs : Nat} {clo chi : Int} {l2 fb : Nat} {F : Nat → Int} (h : SfAt W w B qb lo st bx pA gA pc gc tA tn tc rA R lA X bs clo chi l2 fb F) (hg : w.grownBy w' (some qb)) (hc : Chute w' W.heap.size qb tA tn tc) : SfAt W w' B qb lo st bx pA gA pc gc tA tn tc rA R lA X bs clo chi l2 fb F :=
  ⟨h.o.keep hg hc, h.f.keep (fun i a b => hg.block i b (fun e => by injection e with e; have := h.h; omega)), h.h, h.lb⟩
theorem SfAt.put {W w : World} {B qb lo : Nat} {st : St} {bx : Nat} {pA gA : Option Addr} {pc gc : Nat} {tA : Option Addr} {tn tc : Nat} {rA : Option Addr} {R : Nat → Int} {lA : Option Addr} {X : Nat → Int} {bs : Nat} {clo chi : Int} {l2 fb : Nat} {F : Nat → Int} (h : SfAt W w B qb lo st bx pA gA pc gc tA tn tc rA R lA X bs clo chi l2 fb F) {k : Nat} (hk : k < st.n) (x : Int) : SfAt W (w.setCell ⟨fb, k, none⟩ (.int .i64 x)) B qb lo st bx pA gA pc gc tA tn tc rA R lA X bs clo chi l2 fb (fun t => if t = k then x else F t) := by
  obtain ⟨b, hA, hl, c0, _⟩ := h.f k hk
  injection hA with hA
  injection hA with hA
  subst hA
  have h1 := h.h
  have hB := h.o.m.hB
  have hbl : Below l2 w (w.setCell ⟨fb, k, none⟩ (.int .i64 x)) := (Below.refl _ _).setCell (by dsimp only; omega) _
  refine ⟨⟨h.o.m.over h1.2.1 hbl (by simp [World.setCell]), h.o.q.below (hbl.mono (by omega)), fun j hj => ?_, h.o.h, h.o.n.same (hbl.block _ h1.1), h.o.hs⟩, h.f.put hk x, h.h, h.lb⟩
  obtain ⟨b, e, a1, a2, a3⟩ := h.o.l j hj
  have hb := h.lb b e
  exact ⟨b, e, a1, cell_same (hbl.block _ hb) a2, fun i => fro_same (hbl.block _ hb) (a3 i)⟩

set_option maxRecDepth 100000 in
set_option maxHeartbeats 8000000 in
/-- numbers of a truth are changed -/
theorem sold_loop4 (W : World) (B qb lo : Nat) (st : St) (bx : Nat) (pA gA : Option Addr) (pc gc : Nat) (tA : Option Addr) (tn tc : Nat) (rA : Option Addr) (R : Nat → Int) (lA : Option Addr) (X : Nat → Int) (bs : Nat) (clo chi : Int) (l2 fb fc : Nat) (F0 : Nat → Int) (hn : 1 ≤ st.n ∧ st.n ≤ 4) (hln2 : tn ≤ 9223372036854775807) {u0 u1 u2 u3 u4 u5 u6 u8 u9 u10 u11 u12 u13 u14 u15 u16 u17 u18 u19 u20 u21 u22 u23 u24 u26 u27 u28 u29 u30 u31 u32 u33 u34 u35 u36 u37 u38 u39 u40 u41 u42 u43 u44 u45 u46 u47 u48 u49 u50 u51 u52 u53 u54 u55 u56 u57 u58 u59 u60 u61 u62 u63 u64 u65 u66 u67 u68 u69 u70 u71 u72 u73 u74 u75 u76 u77 u78 u79 u80 u81 u82 u83 u84 u85 u86 u87 u88 u89 u90 u91 u92 u93 u94 u95 u96 u97 u98 u99 u100 u101 u102 u103 u104 u105 u106 u107 u108 u109 u110 u111 u112 u113 u114 u115 u116 u117 u118 u119 u120 u121 u122 u123 u124 u125 u126 u127 u128 u129 u130 u131 u132 u133 u134 u135 u136 u137 u138 u139 u140 u141 u142 u143 u144 u145 u146 u147 u148 u149 u150 u151 u152 u153 u154 u155 u156 u157 u158 u159 u160 u161 u162 u163 u164 u165 u166 u167 u168 u169 u170 u171 u172 u173 u174 u175 u176 u177 u178 u179 u180 u181 u185 u186 u187 u188 u189 u190 u191 u192 u193 u194 u195 u196 u197 u198 u199 u200 u201 u202 u203 u204 u205 u206 u207 u208 u209 u210 u211 u212 u213 u214 u215 u216 u217 u218 u219 u220 u221 u222 u223 u224 u225 u226 u227 u228 u229 u230 u231 u232 u233 u234 u235 u236 u237 u238 u239 u240 u241 u242 u243 u244 u245 u246 u247 u248 u249 u250 u251 u252 u253 u254 u255 u256 u257 u258 u259 u260 u261 u262 u263 u264 u265 u266 u267 : Value} (w : World) (H0 : Hid (SfAt W w B qb lo st bx pA gA pc gc tA tn tc rA R lA X bs clo chi l2 fb F0))
    (Q : Exit → Act → World → Prop) (hK : ∀ {x26 x27 x184 x185 x186 x187 x188 x189 x190 x191 x192 x193 x194 x195 : Value} (w' : World) (F : Nat → Int), Hid (SfAt W w' B qb lo st bx pA gA pc gc tA tn tc rA R lA X bs clo chi l2 fb F) → Q .normal ⟨(List.toArray (u0 :: u1 :: u2 :: u3 :: u4 :: u5 :: u6 :: (.pointer (some ⟨qb, 0, none⟩)) :: u8 :: u9 :: u10 :: u11 :: u12 :: u13 :: u14 :: u15 :: u16 :: u17 :: u18 :: u19 :: u20 :: u21 :: u22 :: u23 :: u24 :: (.slice (some ⟨fb, 0, none⟩) st.n fc) :: x26 :: x27 :: u28 :: u29 :: u30 :: u31 :: u32 :: u33 :: u34 :: u35 :: u36 :: u37 :: u38 :: u39 :: u40 :: u41 :: u42 :: u43 :: u44 :: u45 :: u46 :: u47 :: u48 :: u49 :: u50 :: u51 :: u52 :: u53 :: u54 :: u55 :: u56 :: u57 :: u58 :: u59 :: u60 :: u61 :: u62 :: u63 :: u64 :: u65 :: u66 :: u67 :: u68 :: u69 :: u70 :: u71 :: u72 :: u73 :: u74 :: u75 :: u76 :: u77 :: u78 :: u79 :: u80 :: u81 :: u82 :: u83 :: u84 :: u85 :: u86 :: u87 :: u88 :: u89 :: u90 :: u91 :: u92 :: u93 :: u94 :: u95 :: u96 :: u97 :: u98 :: u99 :: u100 :: u101 :: u102 :: u103 :: u104 :: u105 :: u106 :: u107 :: u108 :: u109 :: u110 :: u111 :: u112 :: u113 :: u114 :: u115 :: u116 :: u117 :: u118 :: u119 :: u120 :: u121 :: u122 :: u123 :: u124 :: u125 :: u126 :: u127 :: u128 :: u129 :: u130 :: u131 :: u132 :: u133 :: u134 :: u135 :: u136 :: u137 :: u138 :: u139 :: u140 :: u141 :: u142 :: u143 :: u144 :: u145 :: u146 :: u147 :: u148 :: u149 :: u150 :: u151 :: u152 :: u153 :: u154 :: u155 :: u156 :: u157 :: u158 :: u159 :: u160 :: u161 :: u162 :: u163 :: u164 :: u165 :: u166 :: u167 :: u168 :: u169 :: u170 :: u171 :: u172 :: u173 :: u174 :: u175 :: u176 :: u177 :: u178 :: u179 :: u180 :: u181 :: (.slice (some ⟨fb, 0, none⟩) st.n fc) :: (.int .i64 st.n) :: x184 :: x185 :: x186 :: x187 :: x188 :: x189 :: x190 :: x191 :: x192 :: x193 :: x194 :: x195 :: u196 :: u197 :: u198 :: u199 :: u200 :: u201 :: u202 :: u203 :: u204 :: u205 :: u206 :: u207 :: u208 :: u209 :: u210 :: u211 :: u212 :: u213 :: u214 :: u215 :: u216 :: u217 :: u218 :: u219 :: u220 :: u221 :: u222 :: u223 :: u224 :: u225 :: u226 :: u227 :: u228 :: u229 :: u230 :: u231 :: u232 :: u233 :: u234 :: u235 :: u236 :: u237 :: u238 :: u239 :: u240 :: u241 :: u242 :: u243 :: u244 :: u245 :: u246 :: u247 :: u248 :: u249 :: u250 :: u251 :: u252 :: u253 :: u254 :: u255 :: u256 :: u257 :: u258 :: u259 :: u260 :: u261 :: u262 :: u263 :: u264 :: u265 :: u266 :: u267 :: [])), []⟩ w') :
    Code.wp Try.prog (blkIn Try.f15 6) Q ⟨(List.toArray (u0 :: u1 :: u2 :: u3 :: u4 :: u5 :: u6 :: (.pointer (some ⟨qb, 0, none⟩)) :: u8 :: u9 :: u10 :: u11 :: u12 :: u13 :: u14 :: u15 :: u16 :: u17 :: u18 :: u19 :: u20 :: u21 :: u22 :: u23 :: u24 :: (.slice (some ⟨fb, 0, none⟩) st.n fc) :: u26 :: u27 :: u28 :: u29 :: u30 :: u31 :: u32 :: u33 :: u34 :: u35 :: u36 :: u37 :: u38 :: u39 :: u40 :: u41 :: u42 :: u43 :: u44 :: u45 :: u46 :: u47 :: u48 :: u49 :: u50 :: u51 :: u52 :: u53 :: u54 :: u55 :: u56 :: u57 :: u58 :: u59 :: u60 :: u61 :: u62 :: u63 :: u64 :: u65 :: u66 :: u67 :: u68 :: u69 :: u70 :: u71 :: u72 :: u73 :: u74 :: u75 :: u76 :: u77 :: u78 :: u79 :: u80 :: u81 :: u82 :: u83 :: u84 :: u85 :: u86 :: u87 :: u88 :: u89 :: u90 :: u91 :: u92 :: u93 :: u94 :: u95 :: u96 :: u97 :: u98 :: u99 :: u100 :: u101 :: u102 :: u103 :: u104 :: u105 :: u106 :: u107 :: u108 :: u109 :: u110 :: u111 :: u112 :: u113 :: u114 :: u115 :: u116 :: u117 :: u118 :: u119 :: u120 :: u121 :: u122 :: u123 :: u124 :: u125 :: u126 :: u127 :: u128 :: u129 :: u130 :: u131 :: u132 :: u133 :: u134 :: u135 :: u136 :: u137 :: u138 :: u139 :: u140 :: u141 :: u142 :: u143 :: u144 :: u145 :: u146 :: u147 :: u148 :: u149 :: u150 :: u151 :: u152 :: u153 :: u154 :: u155 :: u156 :: u157 :: u158 :: u159 :: u160 :: u161 :: u162 :: u163 :: u164 :: u165 :: u166 :: u167 :: u168 :: u169 :: u170 :: u171 :: u172 :: u173 :: u174 :: u175 :: u176 :: u177 :: u178 :: u179 :: u180 :: u181 :: (.slice (some ⟨fb, 0, none⟩) st.n fc) :: (.int .i64 st.n) :: (.int .i64 0) :: u185 :: u186 :: u187 :: u188 :: u189 :: u190 :: u191 :: u192 :: u193 :: u194 :: u195 :: u196 :: u197 :: u198 :: u199 :: u200 :: u201 :: u202 :: u203 :: u204 :: u205 :: u206 :: u207 :: u208 :: u209 :: u210 :: u211 :: u212 :: u213 :: u214 :: u215 :: u216 :: u217 :: u218 :: u219 :: u220 :: u221 :: u222 :: u223 :: u224 :: u225 :: u226 :: u227 :: u228 :: u229 :: u230 :: u231 :: u232 :: u233 :: u234 :: u235 :: u236 :: u237 :: u238 :: u239 :: u240 :: u241 :: u242 :: u243 :: u244 :: u245 :: u246 :: u247 :: u248 :: u249 :: u250 :: u251 :: u252 :: u253 :: u254 :: u255 :: u256 :: u257 :: u258 :: u259 :: u260 :: u261 :: u262 :: u263 :: u264 :: u265 :: u266 :: u267 :: [])), []⟩ w := by
  (conv => arg 2; whnf)
  go_wp2_with fail
  go_loopw [184] (fun v wr => ∃ (k : Nat) (F : Nat → Int), k ≤ st.n ∧ v = .int .i64 k ∧ Hid (SfAt W wr B qb lo st bx pA gA pc gc tA tn tc rA R lA X bs clo chi l2 fb F)) (fun v _ => st.n - (intOf v).toNat)
  case atStart => exact ⟨0, F0, Nat.zero_le _, rfl, H0⟩
  case round =>
    clear H0
    obtain ⟨k, F, hk, rfl, HR⟩ := hrel
    obtain ⟨wo, rfl⟩ : ∃ wo, wo = wr := ⟨_, rfl⟩
    by_cases hlt : k < st.n
    · have hki : (k : Int) < (st.n : Int) := by omega
      have hk0 : (0 : Int) ≤ (k : Int) := by omega
      have ek : IntKind.i64.wrap ((k : Int) + 1) = (k : Int) + 1 := IntWalk.i64_in _ (by omega)
      go_wp2_with fail
      refine (pull_any W.heap.size qb tA tn tc 4 (by omega) hln2 _ HR.out.o.m.c).mono ?_
      rintro e w1 ⟨x, rfl, hx0, hx1, hg, hc⟩
      have HR1 := Lib.hid (HR.out.keep hg hc)
      obtain ⟨fb2, hfA, _, c0, cf⟩ := HR1.out.f k hlt
      obtain rfl : fb = fb2 := by simpa using hfA
      have cf0 := cf k
      have HP1 := Lib.hid (HR1.out.put hlt x)
      clear hg hc hfA cf HR
      by_cases hx3 : x < 3
      · go_wp2_with fail
        go_roundw
        case rel => exact ⟨k + 1, _, by omega, by go_num, HP1⟩
        case measure => simp [intOf]; omega
      · go_wp2_with fail
        go_roundw
        case rel => exact ⟨k + 1, F, by omega, by go_num, HR1⟩
        case measure => simp [intOf]; omega
    · obtain rfl : k = st.n := by omega
      have hge : ¬ (st.n : Int) < (st.n : Int) := by omega
      go_wp2_with fail
      exact hK _ F HR

theorem foul_inS {st : St} (hst : st.ok) {k : Nat} (hk : k < st.n) : st.foulR (k : Int) = ((st.P k).f, (st.P k).hi, 0) := by
  unfold St.foulR
  rw [if_neg (by simp [St.check_ok.2 hst]), if_neg (by simp [inB]; omega)]
  simp
def fitB (st : St) (F : Nat → Int) (k : Nat) : Bool := decide ((st.P k).f ≤ F k) && decide (F k ≤ (st.P k).hi)
theorem allN_succ (f : Nat → Bool) (k : Nat) : allN f (k + 1) = (allN f k && f k) := by
  cases h : allN f (k + 1) with
  | true =>
    have h1 := allN_iff.1 h
    rw [allN_iff.2 (fun j hj => h1 j (by omega)), h1 k (by omega)]
    rfl
  | false =>
    symm
    rw [Bool.and_eq_false_iff]
    cases h2 : allN f k with
    | false => exact .inl rfl
    | true =>
      right
      cases h3 : f k with
      | false => rfl
      | true =>
        have : allN f (k + 1) = true := allN_iff.2 (fun j hj => by
          by_cases e : j = k
          · subst e; exact h3
          · exact allN_iff.1 h2 j (by omega))
        rw [this] at h
        cases h

set_option maxRecDepth 100000 in
set_option maxHeartbeats 8000000 in
/-- whether the numbers lie in the spans -/
theorem sold_loop5 (W : World) (B qb lo : Nat) (st : St) (bx : Nat) (pA gA : Option Addr) (pc gc : Nat) (tA : Option Addr) (tn tc : Nat) (rA : Option Addr) (R : Nat → Int) (lA : Option Addr) (X : Nat → Int) (bs : Nat) (clo chi : Int) (l2 fb fc : Nat) (F : Nat → Int) (HST : Hid st.ok) (hn : 1 ≤ st.n ∧ st.n ≤ 4) {u0 u1 u2 u3 u4 u6 u7 u8 u9 u10 u11 u12 u13 u14 u15 u16 u17 u18 u19 u20 u21 u22 u23 u24 u26 u27 u29 u30 u31 u32 u33 u34 u35 u36 u37 u38 u39 u40 u41 u42 u43 u44 u45 u46 u47 u48 u49 u50 u51 u52 u53 u54 u55 u56 u57 u58 u59 u60 u61 u62 u63 u64 u65 u66 u67 u68 u69 u70 u71 u72 u73 u74 u75 u76 u77 u78 u79 u80 u81 u82 u83 u84 u85 u86 u87 u88 u89 u90 u91 u92 u93 u94 u95 u96 u97 u98 u99 u100 u101 u102 u103 u104 u105 u106 u107 u108 u109 u110 u111 u112 u113 u114 u115 u116 u117 u118 u119 u120 u121 u122 u123 u124 u125 u126 u127 u128 u129 u130 u131 u132 u133 u134 u135 u136 u137 u138 u139 u140 u141 u142 u143 u144 u145 u146 u147 u148 u149 u150 u151 u152 u153 u154 u155 u156 u157 u158 u159 u160 u161 u162 u163 u164 u165 u166 u167 u168 u169 u170 u171 u172 u173 u174 u175 u176 u177 u178 u179 u180 u181 u182 u183 u184 u185 u186 u187 u188 u189 u190 u191 u192 u193 u194 u195 u199 u200 u201 u202 u203 u204 u205 u206 u207 u208 u209 u210 u211 u212 u213 u214 u215 u216 u217 u218 u219 u220 u221 u222 u223 u224 u225 u226 u227 u228 u229 u230 u231 u232 u233 u234 u235 u236 u237 u238 u239 u240 u241 u242 u243 u244 u245 u246 u247 u248 u249 u250 u251 u252 u253 u254 u255 u256 u257 u258 u259 u260 u261 u262 u263 u264 u265 u266 u267 : Value} (w : World) (H0 : Hid (SfAt W w B qb lo st bx pA gA pc gc tA tn tc rA R lA X bs clo chi l2 fb F))
    (Q : Exit → Act → World → Prop) (hK : ∀ {x4 x29 x30 x31 x32 x198 x199 x200 x201 x202 x203 x204 x205 x206 x207 x208 x209 x210 x211 x212 x213 x214 x215 x216 x217 : Value} (w' : World), Hid (SfAt W w' B qb lo st bx pA gA pc gc tA tn tc rA R lA X bs clo chi l2 fb F) → Q .normal ⟨(List.toArray (u0 :: u1 :: u2 :: u3 :: x4 :: (.pointer (some ⟨bx, 0, none⟩)) :: u6 :: u7 :: u8 :: u9 :: u10 :: u11 :: u12 :: u13 :: u14 :: u15 :: u16 :: u17 :: u18 :: u19 :: u20 :: u21 :: u22 :: u23 :: u24 :: (.slice (some ⟨fb, 0, none⟩) st.n fc) :: u26 :: u27 :: (.bool (allN (fitB st F) st.n)) :: x29 :: x30 :: x31 :: x32 :: u33 :: u34 :: u35 :: u36 :: u37 :: u38 :: u39 :: u40 :: u41 :: u42 :: u43 :: u44 :: u45 :: u46 :: u47 :: u48 :: u49 :: u50 :: u51 :: u52 :: u53 :: u54 :: u55 :: u56 :: u57 :: u58 :: u59 :: u60 :: u61 :: u62 :: u63 :: u64 :: u65 :: u66 :: u67 :: u68 :: u69 :: u70 :: u71 :: u72 :: u73 :: u74 :: u75 :: u76 :: u77 :: u78 :: u79 :: u80 :: u81 :: u82 :: u83 :: u84 :: u85 :: u86 :: u87 :: u88 :: u89 :: u90 :: u91 :: u92 :: u93 :: u94 :: u95 :: u96 :: u97 :: u98 :: u99 :: u100 :: u101 :: u102 :: u103 :: u104 :: u105 :: u106 :: u107 :: u108 :: u109 :: u110 :: u111 :: u112 :: u113 :: u114 :: u115 :: u116 :: u117 :: u118 :: u119 :: u120 :: u121 :: u122 :: u123 :: u124 :: u125 :: u126 :: u127 :: u128 :: u129 :: u130 :: u131 :: u132 :: u133 :: u134 :: u135 :: u136 :: u137 :: u138 :: u139 :: u140 :: u141 :: u142 :: u143 :: u144 :: u145 :: u146 :: u147 :: u148 :: u149 :: u150 :: u151 :: u152 :: u153 :: u154 :: u155 :: u156 :: u157 :: u158 :: u159 :: u160 :: u161 :: u162 :: u163 :: u164 :: u165 :: u166 :: u167 :: u168 :: u169 :: u170 :: u171 :: u172 :: u173 :: u174 :: u175 :: u176 :: u177 :: u178 :: u179 :: u180 :: u181 :: u182 :: u183 :: u184 :: u185 :: u186 :: u187 :: u188 :: u189 :: u190 :: u191 :: u192 :: u193 :: u194 :: u195 :: (.slice (some ⟨fb, 0, none⟩) st.n fc) :: (.int .i64 st.n) :: x198 :: x199 :: x200 :: x201 :: x202 :: x203 :: x204 :: x205 :: x206 :: x207 :: x208 :: x209 :: x210 :: x211 :: x212 :: x213 :: x214 :: x215 :: x216 :: x217 :: u218 :: u219 :: u220 :: u221 :: u222 :: u223 :: u224 :: u225 :: u226 :: u227 :: u228 :: u229 :: u230 :: u231 :: u232 :: u233 :: u234 :: u235 :: u236 :: u237 :: u238 :: u239 :: u240 :: u241 :: u242 :: u243 :: u244 :: u245 :: u246 :: u247 :: u248 :: u249 :: u250 :: u251 :: u252 :: u253 :: u254 :: u255 :: u256 :: u257 :: u258 :: u259 :: u260 :: u261 :: u262 :: u263 :: u264 :: u265 :: u266 :: u267 :: [])), []⟩ w') :
    Code.wp Try.prog (blkIn Try.f15 8) Q ⟨(List.toArray (u0 :: u1 :: u2 :: u3 :: u4 :: (.pointer (some ⟨bx, 0, none⟩)) :: u6 :: u7 :: u8 :: u9 :: u10 :: u11 :: u12 :: u13 :: u14 :: u15 :: u16 :: u17 :: u18 :: u19 :: u20 :: u21 :: u22 :: u23 :: u24 :: (.slice (some ⟨fb, 0, none⟩) st.n fc) :: u26 :: u27 :: (.bool true) :: u29 :: u30 :: u31 :: u32 :: u33 :: u34 :: u35 :: u36 :: u37 :: u38 :: u39 :: u40 :: u41 :: u42 :: u43 :: u44 :: u45 :: u46 :: u47 :: u48 :: u49 :: u50 :: u51 :: u52 :: u53 :: u54 :: u55 :: u56 :: u57 :: u58 :: u59 :: u60 :: u61 :: u62 :: u63 :: u64 :: u65 :: u66 :: u67 :: u68 :: u69 :: u70 :: u71 :: u72 :: u73 :: u74 :: u75 :: u76 :: u77 :: u78 :: u79 :: u80 :: u81 :: u82 :: u83 :: u84 :: u85 :: u86 :: u87 :: u88 :: u89 :: u90 :: u91 :: u92 :: u93 :: u94 :: u95 :: u96 :: u97 :: u98 :: u99 :: u100 :: u101 :: u102 :: u103 :: u104 :: u105 :: u106 :: u107 :: u108 :: u109 :: u110 :: u111 :: u112 :: u113 :: u114 :: u115 :: u116 :: u117 :: u118 :: u119 :: u120 :: u121 :: u122 :: u123 :: u124 :: u125 :: u126 :: u127 :: u128 :: u129 :: u130 :: u131 :: u132 :: u133 :: u134 :: u135 :: u136 :: u137 :: u138 :: u139 :: u140 :: u141 :: u142 :: u143 :: u144 :: u145 :: u146 :: u147 :: u148 :: u149 :: u150 :: u151 :: u152 :: u153 :: u154 :: u155 :: u156 :: u157 :: u158 :: u159 :: u160 :: u161 :: u162 :: u163 :: u164 :: u165 :: u166 :: u167 :: u168 :: u169 :: u170 :: u171 :: u172 :: u173 :: u174 :: u175 :: u176 :: u177 :: u178 :: u179 :: u180 :: u181 :: u182 :: u183 :: u184 :: u185 :: u186 :: u187 :: u188 :: u189 :: u190 :: u191 :: u192 :: u193 :: u194 :: u195 :: (.slice (some ⟨fb, 0, none⟩) st.n fc) :: (.int .i64 st.n) :: (.int .i64 0) :: u199 :: u200 :: u201 :: u202 :: u203 :: u204 :: u205 :: u206 :: u207 :: u208 :: u209 :: u210 :: u211 :: u212 :: u213 :: u214 :: u215 :: u216 :: u217 :: u218 :: u219 :: u220 :: u221 :: u222 :: u223 :: u224 :: u225 :: u226 :: u227 :: u228 :: u229 :: u230 :: u231 :: u232 :: u233 :: u234 :: u235 :: u236 :: u237 :: u238 :: u239 :: u240 :: u241 :: u242 :: u243 :: u244 :: u245 :: u246 :: u247 :: u248 :: u249 :: u250 :: u251 :: u252 :: u253 :: u254 :: u255 :: u256 :: u257 :: u258 :: u259 :: u260 :: u261 :: u262 :: u263 :: u264 :: u265 :: u266 :: u267 :: [])), []⟩ w := by
  (conv => arg 2; whnf)
  go_wp2_with fail
  go_loopw [28, 198] (fun b v wr => ∃ k : Nat, k ≤ st.n ∧ b = .bool (allN (fitB st F) k) ∧ v = .int .i64 k ∧ Hid (SfAt W wr B qb lo st bx pA gA pc gc tA tn tc rA R lA X bs clo chi l2 fb F)) (fun _ v _ => st.n - (intOf v).toNat)
  case atStart => exact ⟨0, Nat.zero_le _, rfl, rfl, H0⟩
  case round =>
    clear H0
    obtain ⟨k, hk, rfl, rfl, HR⟩ := hrel
    obtain ⟨wo, rfl⟩ : ∃ wo, wo = wr := ⟨_, rfl⟩
    by_cases hlt : k < st.n
    · have hki : (k : Int) < (st.n : Int) := by omega
      have hk0 : (0 : Int) ≤ (k : Int) := by omega
      have ek : IntKind.i64.wrap ((k : Int) + 1) = (k : Int) + 1 := IntWalk.i64_in _ (by omega)
      obtain ⟨fb2, hfA, _, c0, _⟩ := HR.out.f k hlt
      obtain rfl : fb = fb2 := by simpa using hfA
      have HAS := Lib.hid (allN_succ (fitB st F) k)
      have HFI := Lib.hid (foul_inS HST.out hlt)
      have HFB : Hid (fitB st F k = (decide ((st.P k).f ≤ F k) && decide (F k ≤ (st.P k).hi))) := Lib.hid rfl
      obtain ⟨b, hb⟩ : ∃ b, allN (fitB st F) k = b := ⟨_, rfl⟩
      rw [hb] at HAS ⊢
      obtain ⟨fk, hfk⟩ : ∃ x, F k = x := ⟨_, rfl⟩
      rw [hfk] at c0 HFB
      clear hfA hb hfk
      obtain ⟨s0, s1, s2⟩ := HR.out.o.m.s
      go_wp2_with fail
      refine (Foul_any st _ pA gA pc gc (k : Int) _ HR.out.o.m.r).mono ?_
      rintro e w1 ⟨rfl, hb⟩
      rw [HFI.out]
      have HR1 := Lib.hid (HR.out.later hb)
      clear hb s0 s1 s2 c0 HR
      obtain ⟨pf, hpf⟩ : ∃ x, (st.P k).f = x := ⟨_, rfl⟩
      obtain ⟨ph, hph⟩ : ∃ x, (st.P k).hi = x := ⟨_, rfl⟩
      rw [hpf, hph] at HFB ⊢
      clear hpf hph
      go_upto_region 43 with fail
      refine wp_name (fun W1 => N2At W1 w1.heap.size pf ph ∧ Below w1.heap.size w1 W1 ∧ w1.heap.size + 1 ≤ W1.heap.size) ⟨(by (repeat' refine And.intro ?_ ?_) <;> (repeat (first | (with_reducible assumption) | (simp; done) | (with_reducible refine cell_drew_of ?_) | (with_reducible refine cell_drewN_of ?_) | (with_reducible refine cell_below_of (by with_reducible assumption) ?_) | ((with_reducible refine cell_new_of ?_ ?_) <;> (first | (with_reducible rfl) | (simp; done))) | ((with_reducible refine fro_new_of ?_) <;> (first | (with_reducible rfl) | (simp; done))) | (with_reducible refine cell_alloc_of _ ?_) | (with_reducible refine cell_set_of _ (by (first | exact Nat.le_refl _ | omega | (simp; done) | (simp; omega))) ?_) | (with_reducible refine fro_drew_of ?_) | (with_reducible refine fro_drewN_of ?_) | (with_reducible refine fro_below_of (by with_reducible assumption) (by (first | exact Nat.le_refl _ | omega | (simp; done) | (simp; omega))) ?_) | (with_reducible refine fro_alloc_of _ (by (first | exact Nat.le_refl _ | omega | (simp; done) | (simp; omega))) ?_) | (with_reducible refine fro_set_of _ ?_)))), (by repeat (first | (with_reducible exact Below.refl _ _) | (with_reducible refine Below.drew ?_) | (with_reducible refine below_drewN ?_ _) | ((with_reducible refine below_alloc ?_ ?_ _); · (first | exact Nat.le_refl _ | omega | (simp; done) | (simp; omega) | (simp at *; omega))) | ((with_reducible refine below_set ?_ ?_ _); · (first | exact Nat.le_refl _ | omega | (simp; done) | (simp; omega) | (simp at *; omega))) | ((with_reducible refine below_via (by with_reducible assumption) ?_ ?_); · (first | exact Nat.le_refl _ | omega | (simp; done) | (simp; omega) | (simp at *; omega))))), by simp⟩ ?_
      rintro w2 ⟨hnx, hba, hs2⟩
      have HR2 := Lib.hid (HR1.out.later hba)
      have HN2 := Lib.hid hnx
      clear hba hnx HR1
      obtain ⟨⟨n0, n1⟩, _⟩ := HN2.out
      cases b with
      | false =>
        go_wp2_with fail
        go_roundw
        case rel => exact ⟨k + 1, by omega, by rw [HAS.out]; rfl, by go_num, HR2⟩
        case measure => simp [intOf]; omega
      | true =>
        go_wp2_with fail
        refine (inspan_any fk pf ph _).mono ?_
        rintro e w3 ⟨rfl, hb⟩
        have HR3 := Lib.hid (HR2.out.later hb)
        have HV := Lib.hid (HAS.out.trans (by rw [Bool.true_and, HFB.out]))
        clear hb n0 n1 HR2 HN2 HAS HFB
        obtain ⟨v, hv⟩ : ∃ v, (decide (pf ≤ fk) && decide (fk ≤ ph)) = v := ⟨_, rfl⟩
        rw [hv] at HV ⊢
        clear hv
        go_wp2_with fail
        go_roundw
        case rel => exact ⟨k + 1, by omega, by rw [HV.out], by go_num, HR3⟩
        case measure => simp [intOf]; omega
    · obtain rfl : k = st.n := by omega
      have hge : ¬ (st.n : Int) < (st.n : Int) := by omega
      go_wp2_with fail
end Go.Proofs.Ytegmomappbehcaa

set_option linter.unusedSimpArgs false
set_option linter.unusedVariables false
namespace Go.Proofs.Ytegmomappbehcaa
open Go.RowKit Go.Shelf

theorem IntRow.gr {w w' : World} {A : Option Addr} {n qb : Nat} {X : Nat → Int} (h : IntRow w w.heap.size A n X) (hg : w.grownBy w' (some qb)) (hne : ∀ a, A = some a → a.block ≠ qb) : IntRow w' w'.heap.size A n X := fun k hk => by
  obtain ⟨b, o, hA, hb, hc⟩ := h k hk
  have := hg.size
  exact ⟨b, o, hA, by omega, cell_same (hg.block b hb (fun e => by injection e with e; exact hne _ hA e)) hc⟩
theorem inspan_yes {n lo hi : Int} (h : lo ≤ n ∧ n ≤ hi) (W : World) :
    Calls Try.prog 44 #[.int .i64 n, .agg #[.int .i64 lo, .int .i64 hi]] W fun e W' => e = .returned (.bool true) ∧ Below W.heap.size W W' := by
  have := inspan_any n lo hi W
  rw [show (decide (lo ≤ n) && decide (n ≤ hi)) = true by simp; exact h] at this
  exact this

set_option maxRecDepth 100000 in
set_option maxHeartbeats 8000000 in
theorem sold_loop3 (W : World) (B qb lo : Nat) (st : St) (bx : Nat) (pA gA : Option Addr) (pc gc : Nat) (tA : Option Addr) (tn tc : Nat) (rA : Option Addr) (R : Nat → Int) (lA : Option Addr) (X : Nat → Int) (bs : Nat) (clo chi : Int) (rc lc : Nat) (sz sv : Int) (HST : Hid st.ok) (hn : 1 ≤ st.n ∧ st.n ≤ 4) (hm : 1 ≤ st.m ∧ st.m ≤ 3) (hln2 : tn ≤ 9223372036854775807) (HX : Hid (∀ k, k < st.n → 0 ≤ X k ∧ X k ≤ (st.P k).s)) (HA : Hid (st.askErr st.n X = 0)) (HRR : Hid (∀ k, k < st.n → (st.P k).f ≤ R k ∧ R k ≤ (st.P k).hi)) (HLO : Hid (st.lo (bagOf X st.n) = clo)) (HHI : Hid (st.hi (bagOf X st.n) = chi)) (hsz : 0 ≤ sz ∧ sz ≤ 24) (hch : 0 ≤ chi ∧ chi ≤ 24) (hcl : 0 ≤ clo)
    (HSV : Hid (0 ≤ sv → ∃ i : Nat, sv = (i : Int) ∧ i < st.m ∧ 100 * chi ≤ (st.G i).foul * sz)) {u0 u1 u2 u3 u4 u11 u13 u14 u15 u16 u17 u18 u19 u20 u21 u22 u23 u24 u25 u26 u27 u28 u29 u30 u31 u32 u33 u34 u35 u36 u37 u38 u39 u40 u41 u42 u43 u44 u45 u46 u47 u48 u49 u50 u51 u52 u53 u54 u55 u56 u57 u58 u59 u60 u61 u62 u63 u64 u65 u66 u67 u68 u69 u70 u71 u72 u73 u74 u75 u76 u77 u78 u79 u80 u81 u82 u83 u84 u85 u86 u87 u88 u89 u90 u91 u92 u93 u94 u95 u96 u97 u98 u99 u100 u101 u102 u103 u104 u105 u106 u107 u108 u109 u110 u111 u112 u113 u114 u115 u116 u117 u118 u119 u120 u121 u122 u123 u124 u125 u126 u127 u128 u129 u130 u131 u132 u133 u134 u135 u136 u137 u138 u139 u140 u141 u142 u143 u144 u145 u146 u147 u148 u149 u150 u151 u152 u153 u154 u155 u156 u157 u158 u159 u160 u161 u162 u163 u164 u165 u166 u167 u168 u169 u170 u171 u172 u173 u174 u175 u176 u177 u179 u180 u181 u182 u183 u184 u185 u186 u187 u188 u189 u190 u191 u192 u193 u194 u195 u196 u197 u198 u199 u200 u201 u202 u203 u204 u205 u206 u207 u208 u209 u210 u211 u212 u213 u214 u215 u216 u217 u218 u219 u220 u221 u222 u223 u224 u225 u226 u227 u228 u229 u230 u231 u232 u233 u234 u235 u236 u237 u238 u239 u240 u241 u242 u243 u244 u245 u246 u247 u248 u249 u250 u251 u252 u253 u254 u255 u256 u257 u258 u259 u260 u261 u262 u263 u264 u265 u266 u267 : Value} (w : World) (H0 : Hid (SoAt W w B qb lo st bx pA gA pc gc tA tn tc rA R lA X bs clo chi))
    (Q : Exit → Act → World → Prop) (hK : ∀ {x4 x25 x26 x27 x28 x29 x30 x31 x32 x33 x34 x35 x178 x179 x180 x181 x182 x183 x184 x185 x186 x187 x188 x189 x190 x191 x192 x193 x194 x195 x196 x197 x198 x199 x200 x201 x202 x203 x204 x205 x206 x207 x208 x209 x210 x211 x212 x213 x214 x215 x216 x217 x218 x219 x220 x221 x222 x223 x224 x225 x226 x227 x228 x229 x230 x231 x232 x233 x234 x235 x236 x237 x238 x239 x240 x241 x242 x243 x244 x245 x246 x247 x248 x249 x250 x251 x252 x253 x254 x255 x256 x257 x258 x259 x260 x261 x262 x263 x264 x265 : Value} (w' : World), Hid (SoAt W w' B qb lo st bx pA gA pc gc tA tn tc rA R lA X bs clo chi) → Q .normal ⟨(List.toArray (u0 :: u1 :: u2 :: u3 :: x4 :: (.pointer (some ⟨bx, 0, none⟩)) :: (.slice rA st.n rc) :: (.pointer (some ⟨qb, 0, none⟩)) :: (.slice lA st.n lc) :: (.int .i64 sz) :: (.pointer (some ⟨bs, 0, none⟩)) :: u11 :: (.int .i64 sv) :: u13 :: u14 :: u15 :: u16 :: u17 :: u18 :: u19 :: u20 :: u21 :: u22 :: u23 :: u24 :: x25 :: x26 :: x27 :: x28 :: x29 :: x30 :: x31 :: x32 :: x33 :: x34 :: x35 :: u36 :: u37 :: u38 :: u39 :: u40 :: u41 :: u42 :: u43 :: u44 :: u45 :: u46 :: u47 :: u48 :: u49 :: u50 :: u51 :: u52 :: u53 :: u54 :: u55 :: u56 :: u57 :: u58 :: u59 :: u60 :: u61 :: u62 :: u63 :: u64 :: u65 :: u66 :: u67 :: u68 :: u69 :: u70 :: u71 :: u72 :: u73 :: u74 :: u75 :: u76 :: u77 :: u78 :: u79 :: u80 :: u81 :: u82 :: u83 :: u84 :: u85 :: u86 :: u87 :: u88 :: u89 :: u90 :: u91 :: u92 :: u93 :: u94 :: u95 :: u96 :: u97 :: u98 :: u99 :: u100 :: u101 :: u102 :: u103 :: u104 :: u105 :: u106 :: u107 :: u108 :: u109 :: u110 :: u111 :: u112 :: u113 :: u114 :: u115 :: u116 :: u117 :: u118 :: u119 :: u120 :: u121 :: u122 :: u123 :: u124 :: u125 :: u126 :: u127 :: u128 :: u129 :: u130 :: u131 :: u132 :: u133 :: u134 :: u135 :: u136 :: u137 :: u138 :: u139 :: u140 :: u141 :: u142 :: u143 :: u144 :: u145 :: u146 :: u147 :: u148 :: u149 :: u150 :: u151 :: u152 :: u153 :: u154 :: u155 :: u156 :: u157 :: u158 :: u159 :: u160 :: u161 :: u162 :: u163 :: u164 :: u165 :: u166 :: u167 :: u168 :: u169 :: u170 :: u171 :: u172 :: u173 :: u174 :: u175 :: u176 :: u177 :: x178 :: x179 :: x180 :: x181 :: x182 :: x183 :: x184 :: x185 :: x186 :: x187 :: x188 :: x189 :: x190 :: x191 :: x192 :: x193 :: x194 :: x195 :: x196 :: x197 :: x198 :: x199 :: x200 :: x201 :: x202 :: x203 :: x204 :: x205 :: x206 :: x207 :: x208 :: x209 :: x210 :: x211 :: x212 :: x213 :: x214 :: x215 :: x216 :: x217 :: x218 :: x219 :: x220 :: x221 :: x222 :: x223 :: x224 :: x225 :: x226 :: x227 :: x228 :: x229 :: x230 :: x231 :: x232 :: x233 :: x234 :: x235 :: x236 :: x237 :: x238 :: x239 :: x240 :: x241 :: x242 :: x243 :: x244 :: x245 :: x246 :: x247 :: x248 :: x249 :: x250 :: x251 :: x252 :: x253 :: x254 :: x255 :: x256 :: x257 :: x258 :: x259 :: x260 :: x261 :: x262 :: x263 :: x264 :: x265 :: u266 :: u267 :: [])), []⟩ w') :
    Code.wp Try.prog (blkIn Try.f15 4) Q ⟨(List.toArray (u0 :: u1 :: u2 :: u3 :: u4 :: (.pointer (some ⟨bx, 0, none⟩)) :: (.slice rA st.n rc) :: (.pointer (some ⟨qb, 0, none⟩)) :: (.slice lA st.n lc) :: (.int .i64 sz) :: (.pointer (some ⟨bs, 0, none⟩)) :: u11 :: (.int .i64 sv) :: u13 :: u14 :: u15 :: u16 :: u17 :: u18 :: u19 :: u20 :: u21 :: u22 :: u23 :: u24 :: u25 :: u26 :: u27 :: u28 :: u29 :: u30 :: u31 :: u32 :: u33 :: u34 :: u35 :: u36 :: u37 :: u38 :: u39 :: u40 :: u41 :: u42 :: u43 :: u44 :: u45 :: u46 :: u47 :: u48 :: u49 :: u50 :: u51 :: u52 :: u53 :: u54 :: u55 :: u56 :: u57 :: u58 :: u59 :: u60 :: u61 :: u62 :: u63 :: u64 :: u65 :: u66 :: u67 :: u68 :: u69 :: u70 :: u71 :: u72 :: u73 :: u74 :: u75 :: u76 :: u77 :: u78 :: u79 :: u80 :: u81 :: u82 :: u83 :: u84 :: u85 :: u86 :: u87 :: u88 :: u89 :: u90 :: u91 :: u92 :: u93 :: u94 :: u95 :: u96 :: u97 :: u98 :: u99 :: u100 :: u101 :: u102 :: u103 :: u104 :: u105 :: u106 :: u107 :: u108 :: u109 :: u110 :: u111 :: u112 :: u113 :: u114 :: u115 :: u116 :: u117 :: u118 :: u119 :: u120 :: u121 :: u122 :: u123 :: u124 :: u125 :: u126 :: u127 :: u128 :: u129 :: u130 :: u131 :: u132 :: u133 :: u134 :: u135 :: u136 :: u137 :: u138 :: u139 :: u140 :: u141 :: u142 :: u143 :: u144 :: u145 :: u146 :: u147 :: u148 :: u149 :: u150 :: u151 :: u152 :: u153 :: u154 :: u155 :: u156 :: u157 :: u158 :: u159 :: u160 :: u161 :: u162 :: u163 :: u164 :: u165 :: u166 :: u167 :: u168 :: u169 :: u170 :: u171 :: u172 :: u173 :: u174 :: u175 :: u176 :: u177 :: (.int .i64 0) :: u179 :: u180 :: u181 :: u182 :: u183 :: u184 :: u185 :: u186 :: u187 :: u188 :: u189 :: u190 :: u191 :: u192 :: u193 :: u194 :: u195 :: u196 :: u197 :: u198 :: u199 :: u200 :: u201 :: u202 :: u203 :: u204 :: u205 :: u206 :: u207 :: u208 :: u209 :: u210 :: u211 :: u212 :: u213 :: u214 :: u215 :: u216 :: u217 :: u218 :: u219 :: u220 :: u221 :: u222 :: u223 :: u224 :: u225 :: u226 :: u227 :: u228 :: u229 :: u230 :: u231 :: u232 :: u233 :: u234 :: u235 :: u236 :: u237 :: u238 :: u239 :: u240 :: u241 :: u242 :: u243 :: u244 :: u245 :: u246 :: u247 :: u248 :: u249 :: u250 :: u251 :: u252 :: u253 :: u254 :: u255 :: u256 :: u257 :: u258 :: u259 :: u260 :: u261 :: u262 :: u263 :: u264 :: u265 :: u266 :: u267 :: [])), []⟩ w := by
  (conv => arg 2; whnf)
  go_wp2_with fail
  go_loopw [178] (fun v wr => ∃ r : Nat, r ≤ 4 ∧ v = .int .i64 r ∧ Hid (SoAt W wr B qb lo st bx pA gA pc gc tA tn tc rA R lA X bs clo chi)) (fun v _ => 4 - (intOf v).toNat)
  case atStart => exact ⟨0, by omega, rfl, H0⟩
  case round =>
    clear H0
    obtain ⟨r, hr, rfl, HR⟩ := hrel
    obtain ⟨wo, rfl⟩ : ∃ wo, wo = wr := ⟨_, rfl⟩
    by_cases hrt : r < 4
    · have hri : (r : Int) < 4 := by omega
      have er : IntKind.i64.wrap ((r : Int) + 1) = (r : Int) + 1 := IntWalk.i64_in _ (by omega)
      have hqo := HR.out.m.hc
      have hBq := HR.out.m.hB
      have hBw := HR.out.m.r.lt
      have hbso := World.block_lt_of_cell? wo _ HR.out.n.1.1
      dsimp only at hbso
      have hlob := HR.out.hs
      have hlb : Hid (∀ b, lA = some ⟨b, 0, none⟩ → b < wo.heap.size) := Lib.hid (fun b e => by
        obtain ⟨b2, h1, _, h3, _⟩ := HR.out.l 0 hn.1
        rw [e] at h1
        injection h1 with h1
        injection h1 with h1
        subst h1
        exact World.block_lt_of_cell? wo _ h3)
      go_wp2_with fail
      refine (copy_int rA st.n rc R _ (HR.out.q.mono hBw) (by omega)).mono ?_
      rintro e w1 ⟨hb, fA, fc, rfl, hof, hfc⟩
      obtain ⟨fb, hfA, hfb, _⟩ := hof 0 hn.1
      subst hfA
      have HS1 : Hid (SfAt W w1 B qb lo st bx pA gA pc gc tA tn tc rA R lA X bs clo chi wo.heap.size fb R) := Lib.hid ⟨HR.out.later hb, hof, ⟨hbso, hqo, by omega⟩, hlb.out⟩
      clear hb hof HR
      go_upto_block 6 with fail
      refine sold_loop4 W B qb lo st bx pA gA pc gc tA tn tc rA R lA X bs clo chi wo.heap.size fb fc R hn hln2 _ HS1 _ (fun w2 F HS2 => ?_)
      clear HS1
      go_upto_block 8 with fail
      refine sold_loop5 W B qb lo st bx pA gA pc gc tA tn tc rA R lA X bs clo chi wo.heap.size fb fc F HST hn _ HS2 _ (fun w3 HS3 => ?_)
      clear HS2
      have HFI : Hid (allN (fitB st F) st.n = true → ∀ k, k < st.n → (st.P k).f ≤ F k ∧ F k ≤ (st.P k).hi) := Lib.hid (fun h k hk => by
        have := allN_iff.1 h k hk
        simpa [fitB] using this)
      obtain ⟨b, hb⟩ : ∃ b, allN (fitB st F) st.n = b := ⟨_, rfl⟩
      rw [hb] at HFI ⊢
      clear hb
      go_upto_if 219 with fail
      go_cut [25] from 179 to 265 (fun v wx => ∃ (gA2 : Option Addr) (gc2 : Nat) (G : Nat → Int), v = .slice gA2 st.n gc2 ∧ Hid (IntRow wx wx.heap.size gA2 st.n G) ∧ Hid (∀ a, gA2 = some a → a.block ≠ qb) ∧ Hid (∀ k, k < st.n → (st.P k).f ≤ G k ∧ G k ≤ (st.P k).hi) ∧ Hid (SoAt W wx B qb lo st bx pA gA pc gc tA tn tc rA R lA X bs clo chi))
      case rest =>
        obtain ⟨gA2, gc2, G, rfl, HG, HGN, HGF, H4⟩ := hcut
        clear HS3 HFI
        have hq4 := H4.out.m.hc
        have hxne : Hid (∀ a, lA = some a → a.block ≠ qb) := Lib.hid (fun a e => by
          obtain ⟨b2, h1, h2, _⟩ := H4.out.l 0 hn.1
          have h3 := H4.out.h
          rw [e] at h1
          injection h1 with h1
          subst h1
          dsimp only
          omega)
        obtain ⟨s0, s1, s2⟩ := H4.out.m.s
        go_wp2_with fail
        refine (truth_any st W.heap.size B qb tA tn tc hln2 pA gA pc gc lA lc X gA2 gc2 G _ H4.out.m.r (fun a e => by
          obtain ⟨b, o, h1, h2, _⟩ := H4.out.m.r.p 0 hn.1
          rw [e] at h1
          injection h1 with h1
          subst h1
          dsimp only
          omega) hn.2 (fun k hk => (HST.out.pk k hk).1) H4.out.l.row hxne.out HG.out HGN.out HX.out (fun k hk => by
          have h1 := HGF.out k hk
          have h2 := HST.out.pk k hk
          unfold Pk.rng at h2
          unfold Pk.hi at h1
          omega) H4.out.m.b.size hq4 H4.out.m.c).mono ?_
        rintro e w5 ⟨yA, yc, Y, rfl, hoy, hyc, hy, hg, hc⟩
        have H5 := Lib.hid (H4.out.keep hg hc)
        have HG5 := Lib.hid (HG.out.gr hg HGN.out)
        have HY5 := Lib.hid hoy.row
        have HTP := Lib.hid (St.truth_poss HA.out HGF.out hy)
        have HY6 : Hid (∀ k, k < st.n → -100 ≤ Y k ∧ Y k ≤ 100) := Lib.hid (fun k hk => by
          have h1 := hy k hk
          have h2 := HX.out k hk
          have h3 := (HST.out.pk k hk).1
          omega)
        clear hoy hyc hy hg hc s0 s1 s2 H4 HG hxne HGN
        obtain ⟨s0, s1, s2⟩ := H5.out.m.s
        go_wp2_with fail
        refine (Possible_any st _ pA gA pc gc lA st.n lc X gA2 st.n gc2 G yA st.n yc Y _ H5.out.m.r H5.out.l.row (by omega) HG5.out HY5.out).mono ?_
        rintro e w6 ⟨rfl, hb⟩
        rw [HTP.out.1]
        have H6 := Lib.hid (H5.out.later hb)
        have HY7 := Lib.hid (HY5.out.later hb)
        have hty : clo ≤ sumN Y st.n ∧ sumN Y st.n ≤ chi := by rw [← HLO.out, ← HHI.out]; exact HTP.out.2
        clear hb s0 s1 s2 H5 HG5 HY5 HTP HGF
        have e1 : IntKind.i64.wrap (100 * sumN Y st.n) = 100 * sumN Y st.n := IntWalk.i64_in _ (by omega)
        obtain ⟨⟨n0, n1⟩, _⟩ := H6.out.n
        obtain ⟨s0, s1, s2⟩ := H6.out.m.s
        go_upto_region 51 with fail
        by_cases hv : 0 ≤ sv
        · obtain ⟨i, rfl, him, hfi⟩ := HSV.out hv
          have hii : (i : Int) < (st.m : Int) := by omega
          obtain ⟨gb, go, hgA, hgl, g0, g1⟩ := H6.out.m.r.g i him
          subst hgA
          have hgd := (HST.out.gd i him).1
          obtain ⟨fo, hfo⟩ : ∃ f, (st.G i).foul = f := ⟨_, rfl⟩
          rw [hfo] at hfi hgd g0
          have hmul := mul_bd hgd hsz
          have e2 : IntKind.i64.wrap (fo * sz) = fo * sz := IntWalk.i64_in _ (by omega)
          have hno : ¬ fo * sz < 100 * sumN Y st.n := by omega
          clear hfo hmul hfi hgd
          refine region_qbw (by kernel_rfl) (by kernel_rfl) ?_
          have x0 := cell_regrown n0
          have x1 := cell_regrown n1
          have x2 := cell_regrown s1
          have x3 := cell_regrown g0
          clear n0 n1 s0 s1 s2 g0 g1
          repeat (first | go_big_quiet_step ((first | (go_at_call 41; exact Calls.regrown_of (total_any yA st.n yc Y _ (HY7.out.later (below_regrown _ _ _)) (by omega) HY6.out)) | (go_at_call 44; exact Calls.regrown_of (inspan_yes hty _)))) | quiet_step ((first | (go_at_call 41; exact Calls.regrown_of (total_any yA st.n yc Y _ (HY7.out.later (below_regrown _ _ _)) (by omega) HY6.out)) | (go_at_call 44; exact Calls.regrown_of (inspan_yes hty _)))))
          refine wpQuiet_nil ?_; intro wq hbq
          clear x0 x1 x2 x3 e1 e2
          have H7 := Lib.hid (H6.out.later hbq)
          clear hbq H6 HY7
          go_wp2_with fail
          go_roundw
          case rel => exact ⟨r + 1, by omega, by go_num, H7⟩
          case measure => simp [intOf]; omega
        · refine region_qbw (by kernel_rfl) (by kernel_rfl) ?_
          have x0 := cell_regrown n0
          have x1 := cell_regrown n1
          clear n0 n1 s0 s1 s2
          repeat (first | go_big_quiet_step ((first | (go_at_call 41; exact Calls.regrown_of (total_any yA st.n yc Y _ (HY7.out.later (below_regrown _ _ _)) (by omega) HY6.out)) | (go_at_call 44; exact Calls.regrown_of (inspan_yes hty _)))) | quiet_step ((first | (go_at_call 41; exact Calls.regrown_of (total_any yA st.n yc Y _ (HY7.out.later (below_regrown _ _ _)) (by omega) HY6.out)) | (go_at_call 44; exact Calls.regrown_of (inspan_yes hty _)))))
          refine wpQuiet_nil ?_; intro wq hbq
          clear x0 x1 e1
          have H7 := Lib.hid (H6.out.later hbq)
          clear hbq H6 HY7
          go_wp2_with fail
          go_roundw
          case rel => exact ⟨r + 1, by omega, by go_num, H7⟩
          case measure => simp [intOf]; omega
      cases b with
      | false =>
        go_wp2_with fail
        go_meet
        exact ⟨rA, rc, R, rfl, Lib.hid (HS3.out.o.q.mono HS3.out.o.m.r.lt), Lib.hid (fun a e => by
          obtain ⟨b, o, h1, h2, _⟩ := HS3.out.o.q 0 hn.1
          rw [e] at h1
          injection h1 with h1
          subst h1
          dsimp only
          omega), HRR, Lib.hid HS3.out.o⟩
      | true =>
        go_wp2_with fail
        go_meet
        exact ⟨_, fc, F, rfl, Lib.hid HS3.out.f.row, Lib.hid (fun a e => by
          injection e with e
          subst e
          dsimp only
          omega), Lib.hid (by first | exact HFI.out rfl | exact HFI.out trivial), Lib.hid HS3.out.o⟩
    · obtain rfl : r = 4 := by omega
      have hge : ¬ ((4 : Nat) : Int) < 4 := by omega
      go_wp2_with fail
end Go.Proofs.Ytegmomappbehcaa
