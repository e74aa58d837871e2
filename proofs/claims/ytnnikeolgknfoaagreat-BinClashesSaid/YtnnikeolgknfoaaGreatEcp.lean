/- The reference's Fewest. -/
import Derived.Test.YtnnikeolgknfoaaGreatC5
import Derived.Test.YtnnikeolgknfoaaGreatP1
import Derived.Test.YtnnikeolgknfoaaGreatEcm
import Derived.Laws.MakeOwn
import Derived.Laws.OwnMore
set_option linter.unusedSimpArgs false
set_option linter.unusedVariables false
namespace Go.Proofs.YtnnikeolgknfoaaGreat

/-- contents agree with a weighing -/
def wgSo (X : Nat → Int) (v : Wg) : Prop := v.p - v.e ≤ pre X (v.t.toNat + 1) - pre X v.f.toNat ∧ pre X (v.t.toNat + 1) - pre X v.f.toNat ≤ v.p + v.e
/-- contents agree with the bins and the weighings that are not out -/
def Rw.fitsO (r : Rw) (out : Nat → Bool) (X : Nat → Int) : Prop := (∀ i, i < r.n → (r.sp i).a ≤ X i ∧ X i ≤ (r.sp i).b) ∧ ∀ i, i < r.m → out i = false → wgSo X (r.V i)
theorem Rw.fitsO_mono {r : Rw} {o o' : Nat → Bool} {X : Nat → Int} (h : r.fitsO o X) (hs : ∀ i, i < r.m → o i = true → o' i = true) : r.fitsO o' X :=
  ⟨h.1, fun i hi ho => h.2 i hi (by
    cases e : o i with
    | false => rfl
    | true => rw [hs i hi e] at ho; cases ho)⟩
theorem Rw.torn_iffT {r : Rw} (hr : r.ok) : r.torn = true ↔ ¬ ∃ X, r.fits X := by
  have hi : r.round = [] ↔ ∃ X, r.fits X := ⟨fun h => ⟨_, (Rw.fin_nil hr h).fits_from hr (s := 0) (by omega)⟩, fun ⟨X, hX⟩ => Rw.fits_round hr hX⟩
  rw [← hi]
  unfold Rw.torn Rw.fitErr
  rw [if_neg (by rw [Rw.check_ok.2 hr]; decide)]
  by_cases h : r.round = []
  · rw [if_pos (by rw [h]; rfl)]
    simp [h]
  · rw [if_neg (fun e => h (List.length_eq_zero_iff.1 e))]
    simp [h]
theorem twk_mem {l : List Wg} {x : Wg} : ∀ k, k ≤ l.length → twk l x k = true → x ∈ l
  | 0, _, h => by cases h
  | k + 1, hk, h => by
    unfold twk at h
    rcases Bool.or_eq_true_iff.1 h with h | h
    · exact twk_mem k (by omega) h
    · have h := of_decide_eq_true h
      rw [List.getD_eq_getElem?_getD, List.getElem?_eq_getElem (show k < l.length by omega), Option.getD_some] at h
      rw [← h]
      exact List.getElem_mem _
theorem wthL_has {V : Nat → Wg} {out : Nat → Bool} : ∀ k j, j < k → out j = false → V j ∈ wthL V out k
  | 0, j, hj, _ => absurd hj (by omega)
  | k + 1, j, hj, ho => by
    unfold wthL
    by_cases e : j = k
    · subst e
      split
      · exact List.mem_append_right _ (by simp)
      · rename_i hc
        rw [ho] at hc
        simp only [Bool.not_false, Bool.true_and, Bool.not_eq_true', Bool.not_eq_false] at hc
        exact twk_mem _ (Nat.le_refl _) hc
    · have ih := wthL_has (V := V) k j (by omega) ho
      split
      · exact List.mem_append_left _ ih
      · exact ih
theorem Rw.fits_wgT {r : Rw} (hr : r.ok) {X : Nat → Int} (h : r.fits X) {i : Nat} (hi : i < r.m) : (r.V i).p - (r.V i).e ≤ pre X ((r.V i).t.toNat + 1) - pre X (r.V i).f.toNat ∧ pre X ((r.V i).t.toNat + 1) - pre X (r.V i).f.toNat ≤ (r.V i).p + (r.V i).e := by
  have a := h ⟨true, i, true⟩ ⟨by show (0 : Int) ≤ (i : Int); omega, by simp only [if_true]; omega⟩
  have b := h ⟨true, i, false⟩ ⟨by show (0 : Int) ≤ (i : Int); omega, by simp only [if_true]; omega⟩
  have hv := hr.v i hi
  have h0 := hv.f
  have h1 := hv.ft
  have e : ((r.V i).t + 1).toNat = (r.V i).t.toNat + 1 := by omega
  unfold Rw.so Rw.b Rw.a Rw.to_ Rw.from_ Rw.num Rw.fa Rw.fb Rw.lo Rw.hi at a b
  simp [e] at a b
  omega
/-- what is left of a row fits where its bins and the weighings that are not out do -/
theorem Rw.wo_fits {r : Rw} (hr : r.ok) (out : Nat → Bool) (X : Nat → Int) : (r.wo out).fits X ↔ r.fitsO out X := by
  have hro := Rw.wo_ok hr out
  constructor
  · intro h
    refine ⟨fun i hi => Rw.fits_sp hro h (i := i) hi, fun i hi ho => ?_⟩
    have hm := wthL_has (V := r.V) r.m i hi ho
    obtain ⟨k, hk, he⟩ := List.getElem_of_mem hm
    have hw := Rw.fits_wgT hro h (i := k) hk
    have hv : (r.wo out).V k = r.V i := by
      show (wthL r.V out r.m).getD k wg0 = _
      rw [List.getD_eq_getElem?_getD, List.getElem?_eq_getElem hk, Option.getD_some, he]
    rw [hv] at hw
    exact hw
  · intro h
    refine Rw.fits_of h.1 (fun k hk => ?_) (fun k hk => ?_)
    · obtain ⟨j, hj, ho, e⟩ := Rw.wo_V hk
      rw [e]
      exact h.2 j hj ho
    · obtain ⟨j, hj, ho, e⟩ := Rw.wo_V hk
      rw [e]
      exact Int.le_trans (hr.v j hj).f (hr.v j hj).ft
end Go.Proofs.YtnnikeolgknfoaaGreat

set_option linter.unusedSimpArgs false
set_option linter.unusedVariables false
namespace Go.Proofs.YtnnikeolgknfoaaGreat

theorem Rw.wo_torn {r : Rw} (hr : r.ok) (out : Nat → Bool) : (r.wo out).torn = true ↔ ¬ ∃ X, r.fitsO out X := by
  rw [Rw.torn_iffT (Rw.wo_ok hr out)]
  exact not_congr (exists_congr fun X => Rw.wo_fits hr out X)
/-- what Clash's loop keeps -/
structure ClSpec (r : Rw) (k : Nat) (L : Nat → Bool) (O : List Nat) : Prop where
  lt : ∀ j, L j = true → j < k
  mem : ∀ j, j ∈ O ↔ j < k ∧ L j = false
  no : ¬ ∃ X, r.fitsO L X
  one : ∀ j, j ∈ O → ∃ X, r.fitsO (fun i => if i = j then true else L i) X
theorem Rw.clN_spec {r : Rw} (hr : r.ok) (h : ¬ ∃ X, r.fitsO (fun _ => false) X) : ∀ k, ClSpec r k (r.clN k).1 (r.clN k).2
  | 0 => ⟨fun j hj => (by cases hj), fun j => ⟨fun hj => (by cases hj), fun hj => absurd hj.1 (by omega)⟩, h, fun j hj => (by cases hj)⟩
  | k + 1 => by
    have ih := Rw.clN_spec hr h k
    unfold Rw.clN
    split
    · rename_i ht
      have hno := (Rw.wo_torn hr _).1 ht
      refine ⟨fun j hj => ?_, fun j => ?_, hno, fun j hj => ?_⟩
      · dsimp only at hj
        split at hj
        · omega
        · have := ih.lt j hj; omega
      · dsimp only
        rw [ih.mem j]
        split
        · rename_i e
          simp
          omega
        · constructor
          · rintro ⟨a, b⟩; exact ⟨by omega, b⟩
          · rintro ⟨a, b⟩; exact ⟨by omega, b⟩
      · obtain ⟨X, hX⟩ := ih.one j hj
        exact ⟨X, Rw.fitsO_mono hX (fun i _ hi => by
          dsimp only at hi ⊢
          split
          · rfl
          · split
            · rfl
            · rename_i h1 h2
              rw [if_neg h1] at hi
              exact hi)⟩
    · rename_i ht
      have hl : (fun j => if j = k then false else if j = k then true else (r.clN k).1 j) = (r.clN k).1 := by
        funext j
        by_cases e : j = k
        · rw [if_pos e]
          cases h1 : (r.clN k).1 j with
          | false => rfl
          | true => have := ih.lt j h1; omega
        · rw [if_neg e, if_neg e]
      dsimp only
      rw [hl]
      refine ⟨fun j hj => by have := ih.lt j hj; omega, fun j => ?_, ih.no, fun j hj => ?_⟩
      · rw [List.mem_append, List.mem_singleton, ih.mem j]
        constructor
        · rintro (⟨a, b⟩ | rfl)
          · exact ⟨by omega, b⟩
          · refine ⟨by omega, ?_⟩
            cases h1 : (r.clN j).1 j with
            | false => rfl
            | true => have := ih.lt j h1; omega
        · rintro ⟨a, b⟩
          by_cases e : j = k
          · exact .inr e
          · exact .inl ⟨by omega, b⟩
      · rcases List.mem_append.1 hj with hj | hj
        · exact ih.one j hj
        · rw [List.mem_singleton.1 hj]
          exact Classical.not_not.1 (fun hn => ht ((Rw.wo_torn hr _).2 hn))
end Go.Proofs.YtnnikeolgknfoaaGreat

set_option linter.unusedSimpArgs false
set_option linter.unusedVariables false
namespace Go.Proofs.YtnnikeolgknfoaaGreat

theorem Rw.clN_nodup (r : Rw) : ∀ k, (r.clN k).2.Nodup ∧ ∀ j, j ∈ (r.clN k).2 → j < k
  | 0 => ⟨List.nodup_nil, fun j hj => by cases hj⟩
  | k + 1 => by
    have ih := Rw.clN_nodup r k
    unfold Rw.clN
    split
    · exact ⟨ih.1, fun j hj => Nat.lt_succ_of_lt (ih.2 j hj)⟩
    · refine ⟨List.nodup_append.2 ⟨ih.1, by simp, fun a ha b hb => ?_⟩, fun j hj => ?_⟩
      · have := ih.2 a ha
        rw [List.mem_singleton.1 hb]
        omega
      · rcases List.mem_append.1 hj with hj | hj
        · exact Nat.lt_succ_of_lt (ih.2 j hj)
        · rw [List.mem_singleton.1 hj]
          exact Nat.lt_succ_self _
theorem pickL_memA (s : Nat) : ∀ (k j : Nat), j ∈ pickL s k ↔ j < k ∧ s.testBit j = true
  | 0, j => ⟨fun h => (by cases h), fun h => absurd h.1 (by omega)⟩
  | k + 1, j => by
    unfold pickL
    split
    · rename_i h
      rw [List.mem_append, List.mem_singleton, pickL_memA s k j]
      constructor
      · rintro (⟨a, b⟩ | rfl)
        · exact ⟨by omega, b⟩
        · exact ⟨by omega, h⟩
      · rintro ⟨a, b⟩
        by_cases e : j = k
        · exact .inr e
        · exact .inl ⟨by omega, b⟩
    · rename_i h
      rw [pickL_memA s k j]
      constructor
      · rintro ⟨a, b⟩; exact ⟨by omega, b⟩
      · rintro ⟨a, b⟩
        refine ⟨?_, b⟩
        rcases Nat.lt_or_ge j k with h1 | h1
        · exact h1
        · have : j = k := by omega
          subst this
          exact absurd b h
theorem pickL_mem {s k j : Nat} : j ∈ pickL s k ↔ j < k ∧ s.testBit j = true := pickL_memA s k j
theorem pickL_nodup (s : Nat) : ∀ k, (pickL s k).Nodup
  | 0 => List.nodup_nil
  | k + 1 => by
    have ih := pickL_nodup s k
    unfold pickL
    split
    · refine List.nodup_append.2 ⟨ih, by simp, fun a ha b hb => ?_⟩
      have := (pickL_mem.1 ha).1
      rw [List.mem_singleton.1 hb]
      omega
    · exact ih
/-- one bit less is one member less -/
theorem pickL_less {s t j : Nat} (hj : s.testBit j = true) (ht : ∀ i, t.testBit i = (s.testBit i && decide (i ≠ j))) : ∀ k, (pickL t k).length + (if j < k then 1 else 0) = (pickL s k).length
  | 0 => by simp [pickL]
  | k + 1 => by
    have ih := pickL_less hj ht k
    have hk := ht k
    unfold pickL
    by_cases e : k = j
    · subst e
      rw [if_neg (by omega)] at ih
      rw [if_neg (by rw [hk]; simp), if_pos hj, if_pos (by omega)]
      simp
      omega
    · have hif : (if j < k + 1 then 1 else 0) = (if j < k then 1 else 0) := by
        by_cases h1 : j < k
        · rw [if_pos h1, if_pos (by omega)]
        · rw [if_neg h1, if_neg (by omega)]
      rw [hif]
      cases hs : s.testBit k with
      | true =>
        have ht1 : t.testBit k = true := by rw [hk, hs]; simp [e]
        rw [ht1]
        simp only [if_true, List.length_append, List.length_singleton]
        omega
      | false =>
        have ht1 : t.testBit k = false := by rw [hk, hs]; rfl
        rw [ht1]
        simpa using ih
/-- what Fewest's loop keeps -/
def FwSpec (r : Rw) (s : Nat) : Option (List Nat) → Prop
  | none => ∀ t, t < s → ¬ ∃ X, r.fitsO (pickF t r.m) X
  | some o => (∃ t, t < s ∧ o = pickL t r.m ∧ ∃ X, r.fitsO (pickF t r.m) X) ∧ ∀ t, t < s → (∃ X, r.fitsO (pickF t r.m) X) → o.length ≤ (pickL t r.m).length
theorem worse_le {l o : List Nat} (h : worse l o = true) : o.length ≤ l.length := by
  unfold worse at h
  rcases Bool.or_eq_true_iff.1 h with h | h
  · have := of_decide_eq_true h; omega
  · have := of_decide_eq_true (Bool.and_eq_true_iff.1 h).1; omega
theorem worse_no {l o : List Nat} (h : worse l o ≠ true) : l.length ≤ o.length := by
  rcases Nat.lt_or_ge o.length l.length with h1 | h1
  · exact absurd (show worse l o = true by unfold worse; rw [decide_eq_true h1]; rfl) h
  · exact h1
theorem Rw.fwN_spec {r : Rw} (hr : r.ok) : ∀ s, FwSpec r s (r.fwN s)
  | 0 => fun t ht => absurd ht (by omega)
  | s + 1 => by
    have ih := Rw.fwN_spec hr s
    cases hq : r.fwN s with
    | none =>
      rw [hq] at ih
      rw [Rw.fwN_none hq]
      split
      · rename_i ht
        have hno := (Rw.wo_torn hr _).1 ht
        intro t h1
        rcases Nat.lt_or_ge t s with h2 | h2
        · exact ih t h2
        · have : t = s := by omega
          subst this
          exact hno
      · rename_i ht
        have hX : ∃ X, r.fitsO (pickF s r.m) X := Classical.not_not.1 (fun hn => ht ((Rw.wo_torn hr _).2 hn))
        refine ⟨⟨s, by omega, rfl, hX⟩, fun t h1 hT => ?_⟩
        rcases Nat.lt_or_ge t s with h2 | h2
        · exact absurd hT (ih t h2)
        · have : t = s := by omega
          subst this
          exact Nat.le_refl _
    | some o =>
      rw [hq] at ih
      obtain ⟨⟨t0, h0, e0, hX0⟩, hm⟩ := ih
      rw [Rw.fwN_some hq]
      by_cases hw : worse (pickL s r.m) o = true
      · rw [if_pos hw]
        have hl := worse_le hw
        refine ⟨⟨t0, by omega, e0, hX0⟩, fun t h1 hT => ?_⟩
        rcases Nat.lt_or_ge t s with h2 | h2
        · exact hm t h2 hT
        · have : t = s := by omega
          subst this
          exact hl
      · rw [if_neg hw]
        have hl := worse_no hw
        by_cases ht : (r.wo (pickF s r.m)).torn = true
        · rw [if_pos ht]
          have hno := (Rw.wo_torn hr _).1 ht
          refine ⟨⟨t0, by omega, e0, hX0⟩, fun t h1 hT => ?_⟩
          rcases Nat.lt_or_ge t s with h2 | h2
          · exact hm t h2 hT
          · have : t = s := by omega
            subst this
            exact absurd hT hno
        · rw [if_neg ht]
          have hX : ∃ X, r.fitsO (pickF s r.m) X := Classical.not_not.1 (fun hn => ht ((Rw.wo_torn hr _).2 hn))
          refine ⟨⟨s, by omega, rfl, hX⟩, fun t h1 hT => ?_⟩
          rcases Nat.lt_or_ge t s with h2 | h2
          · exact Nat.le_trans hl (hm t h2 hT)
          · have : t = s := by omega
            subst this
            exact Nat.le_refl _
/-- without all weighings bins fit -/
theorem Rw.fitsO_all {r : Rw} (hr : r.ok) {o : Nat → Bool} (h : ∀ i, i < r.m → o i = true) : r.fitsO o (fun i => (r.sp i).a) :=
  ⟨fun i hi => ⟨Int.le_refl _, (Rw.sp_bd hr hi).2.1⟩, fun i hi ho => by rw [h i hi] at ho; cases ho⟩
theorem Rw.fewL_spec {r : Rw} (hr : r.ok) : ∃ t, t < 2 ^ r.m ∧ r.fewL = pickL t r.m ∧ (∃ X, r.fitsO (pickF t r.m) X) ∧ ∀ t', t' < 2 ^ r.m → (∃ X, r.fitsO (pickF t' r.m) X) → r.fewL.length ≤ (pickL t' r.m).length := by
  have h := Rw.fwN_spec hr (2 ^ r.m)
  unfold Rw.fewL
  have hp := Nat.two_pow_pos r.m
  cases hq : r.fwN (2 ^ r.m) with
  | none =>
    rw [hq] at h
    refine absurd ⟨_, Rw.fitsO_all hr (o := pickF (2 ^ r.m - 1) r.m) (fun i hi => ?_)⟩ (h (2 ^ r.m - 1) (by omega))
    unfold pickF
    rw [Nat.testBit_two_pow_sub_one]
    simp [hi]
  | some o =>
    rw [hq] at h
    obtain ⟨⟨t, h1, h2, h3⟩, h4⟩ := h
    exact ⟨t, h1, h2, h3, h4⟩
theorem pickF_iff {t m i : Nat} : pickF t m i = true ↔ i ∈ pickL t m := by
  rw [pickL_mem]
  unfold pickF
  simp
theorem mem_erase_idx {l : List Nat} (hn : l.Nodup) {k i : Nat} (hk : k < l.length) (h : i ∈ l.eraseIdx k) : i ∈ l ∧ i ≠ l[k] := by
  rw [List.mem_eraseIdx_iff_getElem] at h
  obtain ⟨q, hq, hqk, e⟩ := h
  refine ⟨e ▸ List.getElem_mem _, fun e2 => hqk ?_⟩
  rw [← e] at e2
  rcases Nat.lt_trichotomy q k with h1 | h1 | h1
  · exact absurd e2 (List.pairwise_iff_getElem.1 hn q k hq hk h1)
  · exact h1
  · exact absurd e2.symm (List.pairwise_iff_getElem.1 hn k q hk hq h1)

/-! ### what the law asks -/
/-- a row with the weighings of a list, or without them -/
def outL (l : List Nat) (with_ : Bool) (i : Nat) : Bool := decide (i ∈ l) != with_
theorem Rw.torn_fits {r : Rw} (hr : r.ok) {X : Nat → Int} : r.fits X ↔ r.fitsO (fun _ => false) X :=
  ⟨fun h => ⟨fun i hi => Rw.fits_sp hr h hi, fun i hi _ => Rw.fits_wgT hr h hi⟩, fun h => Rw.fits_of h.1 (fun i hi => h.2 i hi rfl) (fun i hi => Int.le_trans (hr.v i hi).f (hr.v i hi).ft)⟩
theorem Rw.clash_all {r : Rw} (hr : r.ok) (h : ¬ ∃ X, r.fits X) : ¬ ∃ X, r.fitsO (outL r.clashL true) X := by
  have hs := Rw.clN_spec hr (fun ⟨X, hX⟩ => h ⟨X, (Rw.torn_fits hr).2 hX⟩) r.m
  rintro ⟨X, hX⟩
  refine hs.no ⟨X, Rw.fitsO_mono hX (fun i hi ho => ?_)⟩
  unfold outL at ho
  cases e : (r.clN r.m).1 i with
  | true => rfl
  | false =>
    have : i ∈ r.clashL := (hs.mem i).2 ⟨hi, e⟩
    rw [decide_eq_true this] at ho
    cases ho
theorem Rw.clash_one {r : Rw} (hr : r.ok) (h : ¬ ∃ X, r.fits X) {k : Nat} (hk : k < r.clashL.length) : ∃ X, r.fitsO (outL (r.clashL.eraseIdx k) true) X := by
  have hs := Rw.clN_spec hr (fun ⟨X, hX⟩ => h ⟨X, (Rw.torn_fits hr).2 hX⟩) r.m
  obtain ⟨X, hX⟩ := hs.one r.clashL[k] (List.getElem_mem hk)
  refine ⟨X, Rw.fitsO_mono hX (fun i hi ho => ?_)⟩
  unfold outL
  cases e : decide (i ∈ r.clashL.eraseIdx k) with
  | false => rfl
  | true =>
    obtain ⟨h1, h2⟩ := mem_erase_idx (r.clN_nodup r.m).1 hk (of_decide_eq_true e)
    have h3 := (hs.mem i).1 h1
    rw [if_neg (show ¬ i = r.clashL[k] from h2), h3.2] at ho
    cases ho
theorem Rw.few_all {r : Rw} (hr : r.ok) : ∃ X, r.fitsO (outL r.fewL false) X := by
  obtain ⟨t, h1, h2, ⟨X, hX⟩, h4⟩ := Rw.fewL_spec hr
  refine ⟨X, Rw.fitsO_mono hX (fun i hi ho => ?_)⟩
  unfold outL
  rw [h2, decide_eq_true (pickF_iff.1 ho)]
  rfl
theorem Rw.few_one {r : Rw} (hr : r.ok) {k : Nat} (hk : k < r.fewL.length) : ¬ ∃ X, r.fitsO (outL (r.fewL.eraseIdx k) false) X := by
  obtain ⟨t, h1, h2, -, h4⟩ := Rw.fewL_spec hr
  rintro ⟨X, hX⟩
  have hj := List.getElem_mem hk
  obtain ⟨j, ej⟩ : ∃ j, j = r.fewL[k] := ⟨_, rfl⟩
  rw [← ej, h2, pickL_mem] at hj
  have hjm : 2 ^ j < 2 ^ r.m := Nat.pow_lt_pow_right (by decide) hj.1
  have hb : ∀ i, (t ^^^ 2 ^ j).testBit i = (t.testBit i && decide (i ≠ j)) := fun i => by
    rw [Nat.testBit_xor, Nat.testBit_two_pow]
    by_cases e : i = j
    · subst e
      simp [hj.2]
    · simp [e, show ¬ j = i from fun h => e h.symm]
  have hl := pickL_less hj.2 hb r.m
  rw [if_pos hj.1] at hl
  have hx := h4 (t ^^^ 2 ^ j) (Nat.xor_lt_two_pow h1 hjm) ⟨X, Rw.fitsO_mono hX (fun i hi ho => ?_)⟩
  · have : r.fewL.length = (pickL t r.m).length := by rw [← h2]
    omega
  · unfold outL at ho
    have hi : i ∈ r.fewL.eraseIdx k := by
      cases e : decide (i ∈ r.fewL.eraseIdx k) with
      | true => exact of_decide_eq_true e
      | false => rw [e] at ho; cases ho
    have hnd : r.fewL.Nodup := by rw [h2]; exact pickL_nodup _ _
    obtain ⟨g1, g2⟩ := mem_erase_idx hnd hk hi
    rw [← ej] at g2
    rw [h2, pickL_mem] at g1
    unfold pickF
    rw [hb i, g1.2]
    simp [g1.1, g2]
theorem Rw.few_none {r : Rw} (hr : r.ok) (h : ∃ X, r.fits X) : r.fewL = [] := by
  obtain ⟨t, -, -, -, h4⟩ := Rw.fewL_spec hr
  obtain ⟨X, hX⟩ := h
  have hz : ∀ k, pickL 0 k = [] := fun k => by
    apply List.eq_nil_iff_forall_not_mem.2
    intro j hj
    have := (pickL_mem.1 hj).2
    simp at this
  have := h4 0 (Nat.two_pow_pos _) ⟨X, Rw.fitsO_mono ((Rw.torn_fits hr).1 hX) (fun i hi ho => by cases ho)⟩
  rw [hz] at this
  exact List.length_eq_zero_iff.1 (Nat.le_zero.1 this)
theorem Rw.few_some {r : Rw} (hr : r.ok) (h : ¬ ∃ X, r.fits X) : 0 < r.fewL.length ∧ r.fewL.length ≤ r.m := by
  obtain ⟨t, h1, h2, ⟨X, hX⟩, h4⟩ := Rw.fewL_spec hr
  constructor
  · rcases Nat.eq_zero_or_pos r.fewL.length with e | e
    · exfalso
      refine h ⟨X, (Rw.torn_fits hr).2 (Rw.fitsO_mono hX (fun i hi ho => ?_))⟩
      have := pickF_iff.1 ho
      rw [← h2, List.length_eq_zero_iff.1 e] at this
      cases this
    · exact e
  · rw [h2]
    exact pickL_len _ _
/-! ### a row with the weighings that are not out -/
def kpL (V : Nat → Wg) (out : Nat → Bool) : Nat → List Wg
  | 0 => []
  | k + 1 => if out k = true then kpL V out k else kpL V out k ++ [V k]
def Rw.kp (r : Rw) (out : Nat → Bool) : Rw := { r with m := (kpL r.V out r.m).length, V := fun k => (kpL r.V out r.m).getD k wg0 }
theorem kpL_yes {V : Nat → Wg} {out : Nat → Bool} {k : Nat} (h : out k = true) : kpL V out (k + 1) = kpL V out k := if_pos h
theorem kpL_no {V : Nat → Wg} {out : Nat → Bool} {k : Nat} (h : out k = false) : kpL V out (k + 1) = kpL V out k ++ [V k] := if_neg (by rw [h]; decide)
theorem kpL_len (V : Nat → Wg) (out : Nat → Bool) : ∀ k, (kpL V out k).length ≤ k
  | 0 => Nat.le_refl _
  | k + 1 => by
    have := kpL_len V out k
    unfold kpL
    split
    · omega
    · simp; omega
theorem kpL_mem {V : Nat → Wg} {out : Nat → Bool} {x : Wg} : ∀ k, x ∈ kpL V out k → ∃ j, j < k ∧ out j = false ∧ x = V j
  | 0, h => by cases h
  | k + 1, h => by
    unfold kpL at h
    split at h
    · obtain ⟨j, a, b⟩ := kpL_mem k h
      exact ⟨j, by omega, b⟩
    · rename_i ho
      rcases List.mem_append.1 h with h | h
      · obtain ⟨j, a, b⟩ := kpL_mem k h
        exact ⟨j, by omega, b⟩
      · exact ⟨k, by omega, by cases e : out k with | false => rfl | true => exact absurd e ho, List.mem_singleton.1 h⟩
theorem kpL_has {V : Nat → Wg} {out : Nat → Bool} : ∀ k j, j < k → out j = false → V j ∈ kpL V out k
  | 0, j, hj, _ => absurd hj (by omega)
  | k + 1, j, hj, ho => by
    by_cases e : j = k
    · subst e
      rw [kpL_no ho]
      exact List.mem_append_right _ (by simp)
    · have ih := kpL_has (V := V) k j (by omega) ho
      unfold kpL
      split
      · exact ih
      · exact List.mem_append_left _ ih
theorem Rw.kp_V {r : Rw} {out : Nat → Bool} {k : Nat} (hk : k < (r.kp out).m) : ∃ j, j < r.m ∧ out j = false ∧ (r.kp out).V k = r.V j := by
  have hk' : k < (kpL r.V out r.m).length := hk
  obtain ⟨j, h1, h2, h3⟩ := kpL_mem _ (List.getElem_mem hk')
  refine ⟨j, h1, h2, ?_⟩
  show (kpL r.V out r.m).getD k wg0 = _
  rw [List.getD_eq_getElem?_getD, List.getElem?_eq_getElem hk', Option.getD_some, h3]
theorem Rw.kp_ok {r : Rw} (hr : r.ok) (out : Nat → Bool) : (r.kp out).ok :=
  ⟨hr.n1, hr.n6, hr.d7, Nat.le_trans (kpL_len _ _ _) hr.m10, hr.b, fun k hk => by
    obtain ⟨j, hj, _, e⟩ := Rw.kp_V hk
    rw [e]
    exact hr.v j hj, hr.k⟩
theorem Rw.kp_fits {r : Rw} (hr : r.ok) (out : Nat → Bool) (X : Nat → Int) : (r.kp out).fits X ↔ r.fitsO out X := by
  have hro := Rw.kp_ok hr out
  constructor
  · intro h
    refine ⟨fun i hi => Rw.fits_sp hro h (i := i) hi, fun i hi ho => ?_⟩
    have hm := kpL_has (V := r.V) r.m i hi ho
    obtain ⟨k, hk, he⟩ := List.getElem_of_mem hm
    have hw := Rw.fits_wgT hro h (i := k) hk
    have hv : (r.kp out).V k = r.V i := by
      show (kpL r.V out r.m).getD k wg0 = _
      rw [List.getD_eq_getElem?_getD, List.getElem?_eq_getElem hk, Option.getD_some, he]
    rw [hv] at hw
    exact hw
  · intro h
    refine Rw.fits_of h.1 (fun k hk => ?_) (fun k hk => ?_)
    · obtain ⟨j, hj, ho, e⟩ := Rw.kp_V hk
      rw [e]
      exact h.2 j hj ho
    · obtain ⟨j, hj, ho, e⟩ := Rw.kp_V hk
      rw [e]
      exact Int.le_trans (hr.v j hj).f (hr.v j hj).ft
theorem Rw.kp_torn {r : Rw} (hr : r.ok) (out : Nat → Bool) : (r.kp out).torn = true ↔ ¬ ∃ X, r.fitsO out X := by
  rw [Rw.torn_iffT (Rw.kp_ok hr out)]
  exact not_congr (exists_congr fun X => Rw.kp_fits hr out X)
/-- what the law asks of a row that clashes -/
structure TornAll (r : Rw) : Prop where
  a : (r.kp (outL r.clashL true)).torn = true
  b : (r.kp (outL r.fewL false)).torn = false
  c : ∀ k, k < r.clashL.length → (r.kp (outL (r.clashL.eraseIdx k) true)).torn = false
  d : ∀ k, k < r.fewL.length → (r.kp (outL (r.fewL.eraseIdx k) false)).torn = true
  n : 0 < r.fewL.length ∧ r.fewL.length ≤ r.m
theorem Rw.torn_all {r : Rw} (hr : r.ok) (h : r.torn = true) : TornAll r := by
  have hn := (Rw.torn_iffT hr).1 h
  have hf : ∀ out, (∃ X, r.fitsO out X) → (r.kp out).torn = false := fun out hx => by
    cases e : (r.kp out).torn with
    | false => rfl
    | true => exact absurd hx ((Rw.kp_torn hr out).1 e)
  exact ⟨(Rw.kp_torn hr _).2 (Rw.clash_all hr hn), hf _ (Rw.few_all hr), fun k hk => hf _ (Rw.clash_one hr hn hk), fun k hk => (Rw.kp_torn hr _).2 (Rw.few_one hr hk), Rw.few_some hr hn⟩
/-- what it asks of a row that does not -/
theorem Rw.torn_not {r : Rw} (hr : r.ok) (h : r.torn = false) : r.fewL = [] ∧ r.round = [] ∧ r.fitErr = 0 ∧ r.clashErr = 1 := by
  have hx : ∃ X, r.fits X := Classical.not_not.1 (fun hn => by rw [(Rw.torn_iffT hr).2 hn] at h; cases h)
  have h2 := Rw.fits_round hr hx.choose_spec
  refine ⟨Rw.few_none hr hx, h2, Rw.fit_zero hr h2, ?_⟩
  unfold Rw.clashErr
  rw [if_neg (by rw [Rw.check_ok.2 hr]; decide), if_neg (by rw [h]; decide)]
end Go.Proofs.YtnnikeolgknfoaaGreat

set_option linter.unusedSimpArgs false
set_option linter.unusedVariables false
namespace Go.Proofs.YtnnikeolgknfoaaGreat
open Go.RowKit Go.Shelf

def BlRow (w : World) (B : Nat) (A : Option Addr) (n : Nat) (u : Nat → Bool) : Prop := ∀ k, k < n → ∃ b, A = some ⟨b, 0, none⟩ ∧ b < B ∧ w.cell? ⟨b, k, none⟩ = some (.bool (u k))
theorem BlRow.later {w w' : World} {B : Nat} {A : Option Addr} {n : Nat} {u : Nat → Bool} (h : BlRow w B A n u) (hb : Below B w w') : BlRow w' B A n u := fun k hk => by
  obtain ⟨b, hA, hl, hc⟩ := h k hk
  exact ⟨b, hA, hl, cell_same (hb.block _ hl) hc⟩

set_option maxRecDepth 100000 in
set_option maxHeartbeats 8000000 in
theorem chosen_any (r : Rw) (out : Nat → Bool) (uA : Option Addr) (uc : Nat) (bA dA vA : Option Addr) (bc dc vc : Nat) (W : World) (hrow : RwRow W W.heap.size r bA bc dA dc vA vc) (hu : BlRow W W.heap.size uA r.m (fun k => !out k)) :
    Calls Tryz.prog 74 #[rwV bA r.n bc dA r.d dc vA r.m vc, .slice uA r.m uc] W fun e W' => ∃ (A : Option Addr) (c : Nat), e = .returned (rwV bA r.n bc dA r.d dc A (r.kp out).m c) ∧ RwRow W' W'.heap.size (r.kp out) bA bc dA dc A c ∧ Below W.heap.size W W' := by
  have H0 := Lib.hid hrow
  have HU := Lib.hid hu
  have hm := hrow.m1
  clear hrow hu
  obtain ⟨k0, ki, kz0, kz1, kz2⟩ := info_parts infoRWg
  go_enter Tryz.func74, Tryz.ntmps74
  go_upto_region 2 with fail
  refine wp_world (fun W1 => RwAt W1 W.heap.size r bA bc dA dc vA vc ∧ V3 W1 (W.heap.size + 1) (.slice none 0 0) (.slice none 0 0) (.slice none 0 0) ∧ V3 W1 (W.heap.size + 2) (.slice bA r.n bc) (.slice dA r.d dc) (.slice none 0 0) ∧ Below W.heap.size W W1 ∧ W.heap.size + 3 ≤ W1.heap.size) ⟨⟨(by (repeat' refine And.intro ?_ ?_) <;> (repeat (first | with_reducible assumption | (simp; done) | (with_reducible first | refine Kd ?_ | refine Kn ?_ | refine Kb (by assumption) ?_) | ((with_reducible first | refine Kw ?_ ?_ | refine Fw ?_) <;> first | with_reducible rfl | (simp; done)) | (with_reducible first | refine Ka _ ?_ | refine Ks _ (by first | exact Nat.le_refl _ | omega | (simp; done) | (simp; omega)) ?_ | refine Fd ?_ | refine Fn ?_ | refine Fb (by assumption) (by first | exact Nat.le_refl _ | omega | (simp; done) | (simp; omega)) ?_ | refine Fa _ (by first | exact Nat.le_refl _ | omega | (simp; done) | (simp; omega)) ?_ | refine Fs _ ?_)))), (by (repeat' refine And.intro ?_ ?_) <;> (repeat (first | with_reducible assumption | (simp; done) | (with_reducible first | refine Kd ?_ | refine Kn ?_ | refine Kb (by assumption) ?_) | ((with_reducible first | refine Kw ?_ ?_ | refine Fw ?_) <;> first | with_reducible rfl | (simp; done)) | (with_reducible first | refine Ka _ ?_ | refine Ks _ (by first | exact Nat.le_refl _ | omega | (simp; done) | (simp; omega)) ?_ | refine Fd ?_ | refine Fn ?_ | refine Fb (by assumption) (by first | exact Nat.le_refl _ | omega | (simp; done) | (simp; omega)) ?_ | refine Fa _ (by first | exact Nat.le_refl _ | omega | (simp; done) | (simp; omega)) ?_ | refine Fs _ ?_)))), (by (repeat' refine And.intro ?_ ?_) <;> (repeat (first | with_reducible assumption | (simp; done) | (with_reducible first | refine Kd ?_ | refine Kn ?_ | refine Kb (by assumption) ?_) | ((with_reducible first | refine Kw ?_ ?_ | refine Fw ?_) <;> first | with_reducible rfl | (simp; done)) | (with_reducible first | refine Ka _ ?_ | refine Ks _ (by first | exact Nat.le_refl _ | omega | (simp; done) | (simp; omega)) ?_ | refine Fd ?_ | refine Fn ?_ | refine Fb (by assumption) (by first | exact Nat.le_refl _ | omega | (simp; done) | (simp; omega)) ?_ | refine Fa _ (by first | exact Nat.le_refl _ | omega | (simp; done) | (simp; omega)) ?_ | refine Fs _ ?_))))⟩, ⟨(by (repeat' refine And.intro ?_ ?_) <;> (repeat (first | with_reducible assumption | (simp; done) | (with_reducible first | refine Kd ?_ | refine Kn ?_ | refine Kb (by assumption) ?_) | ((with_reducible first | refine Kw ?_ ?_ | refine Fw ?_) <;> first | with_reducible rfl | (simp; done)) | (with_reducible first | refine Ka _ ?_ | refine Ks _ (by first | exact Nat.le_refl _ | omega | (simp; done) | (simp; omega)) ?_ | refine Fd ?_ | refine Fn ?_ | refine Fb (by assumption) (by first | exact Nat.le_refl _ | omega | (simp; done) | (simp; omega)) ?_ | refine Fa _ (by first | exact Nat.le_refl _ | omega | (simp; done) | (simp; omega)) ?_ | refine Fs _ ?_)))), (by (repeat' refine And.intro ?_ ?_) <;> (repeat (first | with_reducible assumption | (simp; done) | (with_reducible first | refine Kd ?_ | refine Kn ?_ | refine Kb (by assumption) ?_) | ((with_reducible first | refine Kw ?_ ?_ | refine Fw ?_) <;> first | with_reducible rfl | (simp; done)) | (with_reducible first | refine Ka _ ?_ | refine Ks _ (by first | exact Nat.le_refl _ | omega | (simp; done) | (simp; omega)) ?_ | refine Fd ?_ | refine Fn ?_ | refine Fb (by assumption) (by first | exact Nat.le_refl _ | omega | (simp; done) | (simp; omega)) ?_ | refine Fa _ (by first | exact Nat.le_refl _ | omega | (simp; done) | (simp; omega)) ?_ | refine Fs _ ?_)))), (by (repeat' refine And.intro ?_ ?_) <;> (repeat (first | with_reducible assumption | (simp; done) | (with_reducible first | refine Kd ?_ | refine Kn ?_ | refine Kb (by assumption) ?_) | ((with_reducible first | refine Kw ?_ ?_ | refine Fw ?_) <;> first | with_reducible rfl | (simp; done)) | (with_reducible first | refine Ka _ ?_ | refine Ks _ (by first | exact Nat.le_refl _ | omega | (simp; done) | (simp; omega)) ?_ | refine Fd ?_ | refine Fn ?_ | refine Fb (by assumption) (by first | exact Nat.le_refl _ | omega | (simp; done) | (simp; omega)) ?_ | refine Fa _ (by first | exact Nat.le_refl _ | omega | (simp; done) | (simp; omega)) ?_ | refine Fs _ ?_)))), (by (repeat' refine And.intro ?_ ?_) <;> (repeat (first | with_reducible assumption | (simp; done) | (with_reducible first | refine Kd ?_ | refine Kn ?_ | refine Kb (by assumption) ?_) | ((with_reducible first | refine Kw ?_ ?_ | refine Fw ?_) <;> first | with_reducible rfl | (simp; done)) | (with_reducible first | refine Ka _ ?_ | refine Ks _ (by first | exact Nat.le_refl _ | omega | (simp; done) | (simp; omega)) ?_ | refine Fd ?_ | refine Fn ?_ | refine Fb (by assumption) (by first | exact Nat.le_refl _ | omega | (simp; done) | (simp; omega)) ?_ | refine Fa _ (by first | exact Nat.le_refl _ | omega | (simp; done) | (simp; omega)) ?_ | refine Fs _ ?_)))), (by (repeat' refine And.intro ?_ ?_) <;> (repeat (first | with_reducible assumption | (simp; done) | (with_reducible first | refine Kd ?_ | refine Kn ?_ | refine Kb (by assumption) ?_) | ((with_reducible first | refine Kw ?_ ?_ | refine Fw ?_) <;> first | with_reducible rfl | (simp; done)) | (with_reducible first | refine Ka _ ?_ | refine Ks _ (by first | exact Nat.le_refl _ | omega | (simp; done) | (simp; omega)) ?_ | refine Fd ?_ | refine Fn ?_ | refine Fb (by assumption) (by first | exact Nat.le_refl _ | omega | (simp; done) | (simp; omega)) ?_ | refine Fa _ (by first | exact Nat.le_refl _ | omega | (simp; done) | (simp; omega)) ?_ | refine Fs _ ?_)))), (by (repeat' refine And.intro ?_ ?_) <;> (repeat (first | with_reducible assumption | (simp; done) | (with_reducible first | refine Kd ?_ | refine Kn ?_ | refine Kb (by assumption) ?_) | ((with_reducible first | refine Kw ?_ ?_ | refine Fw ?_) <;> first | with_reducible rfl | (simp; done)) | (with_reducible first | refine Ka _ ?_ | refine Ks _ (by first | exact Nat.le_refl _ | omega | (simp; done) | (simp; omega)) ?_ | refine Fd ?_ | refine Fn ?_ | refine Fb (by assumption) (by first | exact Nat.le_refl _ | omega | (simp; done) | (simp; omega)) ?_ | refine Fa _ (by first | exact Nat.le_refl _ | omega | (simp; done) | (simp; omega)) ?_ | refine Fs _ ?_))))⟩, ⟨(by (repeat' refine And.intro ?_ ?_) <;> (repeat (first | with_reducible assumption | (simp; done) | (with_reducible first | refine Kd ?_ | refine Kn ?_ | refine Kb (by assumption) ?_) | ((with_reducible first | refine Kw ?_ ?_ | refine Fw ?_) <;> first | with_reducible rfl | (simp; done)) | (with_reducible first | refine Ka _ ?_ | refine Ks _ (by first | exact Nat.le_refl _ | omega | (simp; done) | (simp; omega)) ?_ | refine Fd ?_ | refine Fn ?_ | refine Fb (by assumption) (by first | exact Nat.le_refl _ | omega | (simp; done) | (simp; omega)) ?_ | refine Fa _ (by first | exact Nat.le_refl _ | omega | (simp; done) | (simp; omega)) ?_ | refine Fs _ ?_)))), (by (repeat' refine And.intro ?_ ?_) <;> (repeat (first | with_reducible assumption | (simp; done) | (with_reducible first | refine Kd ?_ | refine Kn ?_ | refine Kb (by assumption) ?_) | ((with_reducible first | refine Kw ?_ ?_ | refine Fw ?_) <;> first | with_reducible rfl | (simp; done)) | (with_reducible first | refine Ka _ ?_ | refine Ks _ (by first | exact Nat.le_refl _ | omega | (simp; done) | (simp; omega)) ?_ | refine Fd ?_ | refine Fn ?_ | refine Fb (by assumption) (by first | exact Nat.le_refl _ | omega | (simp; done) | (simp; omega)) ?_ | refine Fa _ (by first | exact Nat.le_refl _ | omega | (simp; done) | (simp; omega)) ?_ | refine Fs _ ?_)))), (by (repeat' refine And.intro ?_ ?_) <;> (repeat (first | with_reducible assumption | (simp; done) | (with_reducible first | refine Kd ?_ | refine Kn ?_ | refine Kb (by assumption) ?_) | ((with_reducible first | refine Kw ?_ ?_ | refine Fw ?_) <;> first | with_reducible rfl | (simp; done)) | (with_reducible first | refine Ka _ ?_ | refine Ks _ (by first | exact Nat.le_refl _ | omega | (simp; done) | (simp; omega)) ?_ | refine Fd ?_ | refine Fn ?_ | refine Fb (by assumption) (by first | exact Nat.le_refl _ | omega | (simp; done) | (simp; omega)) ?_ | refine Fa _ (by first | exact Nat.le_refl _ | omega | (simp; done) | (simp; omega)) ?_ | refine Fs _ ?_)))), (by (repeat' refine And.intro ?_ ?_) <;> (repeat (first | with_reducible assumption | (simp; done) | (with_reducible first | refine Kd ?_ | refine Kn ?_ | refine Kb (by assumption) ?_) | ((with_reducible first | refine Kw ?_ ?_ | refine Fw ?_) <;> first | with_reducible rfl | (simp; done)) | (with_reducible first | refine Ka _ ?_ | refine Ks _ (by first | exact Nat.le_refl _ | omega | (simp; done) | (simp; omega)) ?_ | refine Fd ?_ | refine Fn ?_ | refine Fb (by assumption) (by first | exact Nat.le_refl _ | omega | (simp; done) | (simp; omega)) ?_ | refine Fa _ (by first | exact Nat.le_refl _ | omega | (simp; done) | (simp; omega)) ?_ | refine Fs _ ?_)))), (by (repeat' refine And.intro ?_ ?_) <;> (repeat (first | with_reducible assumption | (simp; done) | (with_reducible first | refine Kd ?_ | refine Kn ?_ | refine Kb (by assumption) ?_) | ((with_reducible first | refine Kw ?_ ?_ | refine Fw ?_) <;> first | with_reducible rfl | (simp; done)) | (with_reducible first | refine Ka _ ?_ | refine Ks _ (by first | exact Nat.le_refl _ | omega | (simp; done) | (simp; omega)) ?_ | refine Fd ?_ | refine Fn ?_ | refine Fb (by assumption) (by first | exact Nat.le_refl _ | omega | (simp; done) | (simp; omega)) ?_ | refine Fa _ (by first | exact Nat.le_refl _ | omega | (simp; done) | (simp; omega)) ?_ | refine Fs _ ?_)))), (by (repeat' refine And.intro ?_ ?_) <;> (repeat (first | with_reducible assumption | (simp; done) | (with_reducible first | refine Kd ?_ | refine Kn ?_ | refine Kb (by assumption) ?_) | ((with_reducible first | refine Kw ?_ ?_ | refine Fw ?_) <;> first | with_reducible rfl | (simp; done)) | (with_reducible first | refine Ka _ ?_ | refine Ks _ (by first | exact Nat.le_refl _ | omega | (simp; done) | (simp; omega)) ?_ | refine Fd ?_ | refine Fn ?_ | refine Fb (by assumption) (by first | exact Nat.le_refl _ | omega | (simp; done) | (simp; omega)) ?_ | refine Fa _ (by first | exact Nat.le_refl _ | omega | (simp; done) | (simp; omega)) ?_ | refine Fs _ ?_))))⟩, (by repeat (first | (with_reducible first | exact Below.refl _ _ | assumption | refine Below.drew ?_) | ((with_reducible first | refine Lc ?_ ?_ _ | refine Ls ?_ ?_ _ | refine Lv (by assumption) ?_ ?_); · first | exact Nat.le_refl _ | omega | (dsimp only; omega) | (simp only [World.size_alloc, World.size_drew, World.heap_drewN]; omega) | (simp; omega)))), by simp⟩ ?_
  rintro w1 ⟨ha1, hq1, ho1, hb1, hs1⟩
  have HA := Lib.hid ha1
  have HQ := Lib.hid hq1
  have HO1 := Lib.hid ho1
  have HB1 := Lib.hid hb1
  have HG1 := Lib.hid (World.grownBy.refl w1 (some (W.heap.size + 2)))
  clear ha1 hq1 ho1 hb1
  go_wp2_with fail
  go_loopw [6] (fun i wr => ∃ (k : Nat) (v : Value), k ≤ r.m ∧ i = .int .i64 k ∧ Hid (V3 wr (W.heap.size + 2) (.slice bA r.n bc) (.slice dA r.d dc) v) ∧ Hid (wr.ownsRow w1.heap.size 123 4 v (kpL r.V out k).length (wgL (kpL r.V out k))) ∧ Hid (w1.grownBy wr (some (W.heap.size + 2))) ∧ w1.heap.size ≤ wr.heap.size) (fun i _ => r.m - (intOf i).toNat)
  case atStart => exact ⟨0, _, Nat.zero_le _, rfl, HO1, Lib.hid (World.ownsRow_nil _ _ _ _), HG1, Nat.le_refl _⟩
  case round =>
    obtain ⟨k, v, hk, rfl, HO, HV, HG, hsz⟩ := hrel
    obtain ⟨wo, rfl⟩ : ∃ wo, wo = wr := ⟨_, rfl⟩
    have hkk : ∀ i, i < W.heap.size + 2 → wo.heap[i]? = w1.heap[i]? := fun i hi => HG.out.block i (by omega) (fun e => by injection e with e; omega)
    have HBW := Lib.hid (HB1.out.trans (gb_below (B := W.heap.size) HG.out (by omega) (by omega)))
    obtain ⟨a0, a1, a2⟩ := HA.out.same (hkk _ (by omega))
    have hsW := HBW.out.size
    by_cases hlt : k < r.m
    · have hk0 : (0 : Int) ≤ (k : Int) := by omega
      have hkn : (k : Int) < (r.m : Int) := by omega
      have ek : IntKind.i64.wrap ((k : Int) + 1) = (k : Int) + 1 := IntWalk.i64_in _ (by omega)
      obtain ⟨ub, hUA, hul, u0⟩ := (HU.out.later HBW.out) k hlt
      replace u0 : wo.cell? ⟨ub, k, none⟩ = some (.bool (!out k)) := u0
      subst hUA
      cases ho : out k with
      | true =>
        have hL : kpL r.V out (k + 1) = kpL r.V out k := kpL_yes ho
        have HL := Lib.hid hL
        replace u0 : wo.cell? ⟨ub, k, none⟩ = some (.bool false) := by rw [u0, ho]; rfl
        clear ho hL hkk
        go_wp2_with fail
        refine ⟨?_, ?measure⟩
        case measure => simp [intOf]; omega
        exact ⟨k + 1, v, by omega, by go_num, HO, by rw [HL.out]; exact HV, HG, hsz⟩
      | false =>
        have hL : kpL r.V out (k + 1) = kpL r.V out k ++ [r.V k] := kpL_no ho
        replace u0 : wo.cell? ⟨ub, k, none⟩ = some (.bool true) := by rw [u0, ho]; rfl
        obtain ⟨b, o, hA', hbl, d0, d1, d2, d3⟩ := (H0.out.later HBW.out).v k hlt
        subst hA'
        obtain ⟨x, hx⟩ : ∃ x, x = r.V k := ⟨_, rfl⟩
        rw [← hx] at d0 d1 d2 d3 hL
        have HL := Lib.hid hL
        have hv1 := HV.out.lt
        have hql := kpL_len r.V out k
        obtain ⟨q, hq⟩ : ∃ q, q = (kpL r.V out k).length := ⟨_, rfl⟩
        rw [← hq] at hql HV
        have HQL := Lib.hid hq
        obtain ⟨l, hl⟩ : ∃ l, l = wgL (kpL r.V out k) := ⟨_, rfl⟩
        rw [← hl] at HV
        have HLL := Lib.hid hl
        obtain ⟨m0, m1, m2, mf0, mf1, mf⟩ := HO.out
        clear hx hkk hL ho hq hl
        go_upto_region 6 with fail
        go_region_law (first | (refine step_append_lies _ (by rfl) (.tmp 24) (.tmp 30) 32 (by rfl) w1.heap.size 123 k0 (.agg #[.int .i64 0, .int .i64 0, .int .i64 0, .int .i64 0]) 4 32 rwgs_under ki kz0 kz1 kz2 (by rfl) (by decide) v q l (by rfl) ((owns_later HV.out (show Below wo.heap.size wo wo.drew from (Below.refl _ wo).drew)).alloc _) ⟨wo.heap.size, 0, none⟩ 1 1 (wgC x) (by rfl) rfl (fun jj uu hjj => new_cells (w := wo.drew) (t := 123) (cs := wgC x) jj uu hjj) (wgC_one x) (by omega) (by unfold maxLen; omega) (by omega) (by (first | omega | (simp only [World.size_alloc, World.size_drew]; omega) | (simp; done) | (simp; omega))) (wo.heap.size + 1) (by simp) ?_; intro g cap w6 hown6 hgr6 hat6 hlt6; have s6 : w6.heap[W.heap.size + 2]? = wo.heap[W.heap.size + 2]? := (hgr6.block _ (by (first | omega | (simp only [World.size_alloc, World.size_drew]; omega) | (simp; done) | (simp; omega))) (fun e => by have := (hv1 _ e.symm).1; omega)).trans (Below.heap_alloc _ _ _ (by (first | omega | (simp only [World.size_alloc, World.size_drew]; omega) | (simp; done) | (simp; omega)))); have a6 := cell_same s6 m2; have b6 := fro_same s6 mf) | fail)
        all_goals
          have hold : ∀ i, i < w1.heap.size → w6.heap[i]? = wo.heap[i]? := fun i hi => (hgr6.block i (by (first | omega | (simp only [World.size_alloc, World.size_drew]; omega) | (simp; done) | (simp; omega))) (fun e => by have := (hv1 i e.symm).1; omega)).trans (Below.heap_alloc _ _ _ (by (first | omega | (simp only [World.size_alloc, World.size_drew]; omega) | (simp; done) | (simp; omega))))
          have hz6 := hgr6.size
          simp only [World.size_alloc, World.size_drew] at hz6
          have HO7 : Hid (V3 (w6.setCell ⟨W.heap.size + 2, 2, none⟩ (.slice (some ⟨g, 0, none⟩) (q + 1) cap)) (W.heap.size + 2) (.slice bA r.n bc) (.slice dA r.d dc) (.slice (some ⟨g, 0, none⟩) (q + 1) cap)) := Lib.hid ((HO.out.same (hold _ (by omega))).set2 _)
          have HV7 : Hid ((w6.setCell ⟨W.heap.size + 2, 2, none⟩ (.slice (some ⟨g, 0, none⟩) (q + 1) cap)).ownsRow w1.heap.size 123 4 (.slice (some ⟨g, 0, none⟩) (q + 1) cap) (kpL r.V out (k + 1)).length (wgL (kpL r.V out (k + 1)))) := Lib.hid (by
            rw [HL.out, wgL_snoc, List.length_append, ← HQL.out, ← HLL.out]
            exact owns_sm hown6 (fun g h1 h2 => set_heap _ (by dsimp only; omega)))
          have HG7 : Hid (w1.grownBy (w6.setCell ⟨W.heap.size + 2, 2, none⟩ (.slice (some ⟨g, 0, none⟩) (q + 1) cap)) (some (W.heap.size + 2))) := Lib.hid (gb_trans (gb_own (gb_new (gb_trans HG.out (gb_of_below _ (show Below wo.heap.size wo wo.drew from (Below.refl _ wo).drew))) _) hgr6 (fun g hg => by have := (hv1 g hg).1; omega)) (gb_set _ _ _ _))
          clear hown6 hgr6 hat6 hlt6 s6 a6 b6 d0 d1 d2 d3 m0 m1 m2 mf0 mf1 mf hv1 a0 a1 a2 u0 hold
          go_wp2_with fail
          go_roundw
          case rel => exact ⟨k + 1, _, by omega, by go_num, HO7, HV7, HG7, by simp only [World.setCell, Array.size_modify]; omega⟩
          case measure => simp [intOf]; omega
    · obtain rfl : k = r.m := by omega
      have hge : ¬ (r.m : Int) < (r.m : Int) := by omega
      obtain ⟨vA2, vc2, rfl, hov, hvc⟩ := OwnWg.ofT (P := (r.kp out).V) (show wo.ownsRow w1.heap.size 123 4 v (r.kp out).m (rowC wgC (r.kp out).V (r.kp out).m) from by have h := HV.out; rw [wgL_row] at h; exact h)
      have HOV := Lib.hid hov
      have hqs := HQ.out.same (hkk _ (by omega))
      have hml : (r.kp out).m ≤ 1000 := by have h : (r.kp out).m ≤ r.m := kpL_len r.V out r.m; omega
      obtain ⟨q0, q1, q2, g0, g1, g2⟩ := hqs
      obtain ⟨o0, o1, o2, -, -, -⟩ := HO.out
      have HML := Lib.hid hml
      clear hov HV HG hkk hml
      obtain ⟨km, hkm⟩ : ∃ m, m = (r.kp out).m := ⟨_, rfl⟩
      have HKM := Lib.hid hkm
      rw [← hkm] at hvc o2
      clear hkm
      go_wp2_with fail
      refine name_post ?_
      intro w' hw
      have hk : ∀ i, i ≠ W.heap.size + 1 → w'.heap[i]? = wo.heap[i]? := fun i hi => by
        rw [hw]
        exact (set_heap _ (by exact hi)).trans ((set_heap _ (by exact hi)).trans (set_heap _ (by exact hi)))
      have hbf : Below W.heap.size W w' := by
        rw [hw]
        exact ((HBW.out.setCell (by dsimp only; omega) _).setCell (by dsimp only; omega) _).setCell (by dsimp only; omega) _
      have hres : w'.cell? ⟨W.heap.size + 1, 0, none⟩ = some (.slice bA r.n bc) ∧ w'.cell? ⟨W.heap.size + 1, 1, none⟩ = some (.slice dA r.d dc) ∧ w'.cell? ⟨W.heap.size + 1, 2, none⟩ = some (.slice vA2 km vc2) := by
        rw [hw]
        exact ⟨by simp [go_sem, q0], by simp [go_sem, q0, q1], by simp [go_sem, q0, q1, q2]⟩
      clear hw
      obtain ⟨s0, s1, s2⟩ := hres
      have HR := (H0.out.later hbf)
      refine bodyPost_ret (v := rwV bA r.n bc dA r.d dc vA2 km vc2) (by simp [results, Tryz.results74, go_sem, s0, s1, s2]) rfl ⟨vA2, vc2, by rw [HKM.out], ?_, hbf⟩
      have hR := RwRow.onW H0.out hbf
      exact ⟨Nat.le_refl _, hR.b, hR.d, (HOV.out.keep (fun i h1 h2 => hk i (by omega))).row, hR.n1, hR.d1, HML.out, hR.bc, hR.dc, by rw [← HKM.out]; exact hvc⟩
end Go.Proofs.YtnnikeolgknfoaaGreat

set_option linter.unusedSimpArgs false
set_option linter.unusedVariables false
namespace Go.Proofs.YtnnikeolgknfoaaGreat
open Go.RowKit Go.Shelf

theorem Rw.clB_torn {r : Rw} (hr : r.ok) : r.clB = r.torn := by
  unfold Rw.torn Rw.fitErr Rw.clB
  rw [if_neg (by rw [Rw.check_ok.2 hr]; decide)]
  cases r.round with
  | nil => rfl
  | cons a l => rfl
theorem Rw.kp_clB {r : Rw} (hr : r.ok) (out : Nat → Bool) : (r.kp out).clB = (r.wo out).torn := by
  rw [Rw.clB_torn (Rw.kp_ok hr out)]
  have h1 := Rw.kp_torn hr out
  have h2 := Rw.wo_torn hr out
  cases e : (r.kp out).torn with
  | true => exact (h2.2 (h1.1 e)).symm
  | false =>
    cases e2 : (r.wo out).torn with
    | false => rfl
    | true => rw [h1.2 (h2.1 e2)] at e; cases e
theorem infoBl : (Tryz.prog.info? 4).map (fun i => (i.zero, i.size, i.bytes)) = some (some (.bool false), 1, 1) := by kernel_rfl
theorem bls_under : Tryz.prog.underlying 67 = some (.slice 4) := by kernel_rfl
theorem mkBl (n : Nat) (hn : n ≤ 1000) (w : World) : (Instr.makeSlice 67 (.int .i64 (n : Int)) (.int .i64 (n : Int))).run Tryz.prog w = .ok (.slice (some ⟨w.heap.size, 0, none⟩) n n) (w.alloc (.cells (madeCells #[.bool false] n) 4)) := by
  obtain ⟨i0, hi, hz0, hz1, hz2⟩ := info_parts infoBl
  have h := run_make (P := Tryz.prog) w 67 4 i0 _ bls_under hi hz0 .i64 .i64 (n : Int) (n : Int) (by omega) (Int.le_refl _) (by rw [hz2]; omega) (by omega)
  rw [hz1, Int.toNat_natCast, Nat.mul_one] at h
  exact h
/-- a slice of booleans of one's own -/
structure UseAt (w : World) (g n : Nat) (u : Nat → Bool) : Prop where
  lt : g < w.heap.size
  c : ∀ k, k < n → w.cell? ⟨g, k, none⟩ = some (.bool (u k)) ∧ w.frozen? ⟨g, k, none⟩ = false
theorem UseAt.same {w w' : World} {g n : Nat} {u : Nat → Bool} (h : UseAt w g n u) (hz : g < w'.heap.size) (hs : w'.heap[g]? = w.heap[g]?) : UseAt w' g n u :=
  ⟨hz, fun k hk => ⟨cell_same hs (h.c k hk).1, fro_same hs (h.c k hk).2⟩⟩
theorem UseAt.later {w w' : World} {g n : Nat} {u : Nat → Bool} (h : UseAt w g n u) (hb : Below w.heap.size w w') : UseAt w' g n u := h.same (Nat.lt_of_lt_of_le h.lt hb.size) (hb.block _ h.lt)
theorem UseAt.bl {w : World} {g n : Nat} {u : Nat → Bool} (h : UseAt w g n u) : BlRow w w.heap.size (some ⟨g, 0, none⟩) n u := fun k hk => ⟨g, rfl, h.lt, (h.c k hk).1⟩
theorem UseAt.set {w : World} {g n k : Nat} {u : Nat → Bool} (h : UseAt w g n u) (hk : k < n) (b : Bool) : UseAt (w.setCell ⟨g, k, none⟩ (.bool b)) g n (fun j => if j = k then b else u j) := by
  refine ⟨by simpa [World.setCell] using h.lt, fun j hj => ?_⟩
  by_cases e : j = k
  · subst e
    rw [if_pos rfl]
    exact ⟨World.cell?_setCell_same' _ _ _ (by rw [(h.c j hj).1]; rfl), by rw [World.frozen?_setCell]; exact (h.c j hj).2⟩
  · rw [if_neg e]
    exact ⟨by rw [World.cell?_setCell_other _ _ _ _ (by intro h; injection h with _ h _; omega)]; exact (h.c j hj).1, by rw [World.frozen?_setCell]; exact (h.c j hj).2⟩
theorem UseAt.made (w : World) (n : Nat) : UseAt (w.alloc (.cells (madeCells #[.bool false] n) 4)) w.heap.size n (fun _ => false) := by
  have hg : (w.alloc (.cells (madeCells #[.bool false] n) 4)).heap[w.heap.size]? = some (.cells (madeCells #[Value.bool false] n) 4 (0, 0)) := by
    show (w.heap.push _)[w.heap.size]? = _
    simp
  refine ⟨by simp, fun k hk => ⟨Kw rfl ?_, ?_⟩⟩
  · have hs : (madeCells #[Value.bool false] n).size = n := size_madeCells _ _
    rw [Array.getElem?_eq_getElem (by omega)]
    simp only [madeCells, Array.getElem_map, Array.getElem_range]
    simp [Nat.mod_one]
  · unfold World.frozen?
    rw [hg]
    rfl

set_option maxRecDepth 100000 in
set_option maxHeartbeats 8000000 in
theorem rClash_any (r : Rw) (bA dA vA : Option Addr) (bc dc vc : Nat) (W : World) (hrow : RwRow W W.heap.size r bA bc dA dc vA vc) :
    Calls Tryz.prog 16 #[rwV bA r.n bc dA r.d dc vA r.m vc] W (NatPost r.clashL r.clashErr W) := by
  have H0 := Lib.hid hrow
  have hm1 := hrow.m1
  clear hrow
  obtain ⟨i0, hi, hz0, hz1, hz2⟩ := info_parts infoInt
  go_enter Tryz.func16, Tryz.ntmps16
  go_upto_region 1 with fail
  refine wp_world (fun w' => RwAt w' W.heap.size r bA bc dA dc vA vc ∧ Below W.heap.size W w' ∧ W.heap.size + 1 ≤ w'.heap.size) ⟨⟨(by (repeat' refine And.intro ?_ ?_) <;> (repeat (first | with_reducible assumption | (simp; done) | (with_reducible first | refine Kd ?_ | refine Kn ?_ | refine Kb (by assumption) ?_) | ((with_reducible first | refine Kw ?_ ?_ | refine Fw ?_) <;> first | with_reducible rfl | (simp; done)) | (with_reducible first | refine Ka _ ?_ | refine Ks _ (by first | exact Nat.le_refl _ | omega | (simp; done) | (simp; omega)) ?_ | refine Fd ?_ | refine Fn ?_ | refine Fb (by assumption) (by first | exact Nat.le_refl _ | omega | (simp; done) | (simp; omega)) ?_ | refine Fa _ (by first | exact Nat.le_refl _ | omega | (simp; done) | (simp; omega)) ?_ | refine Fs _ ?_)))), (by (repeat' refine And.intro ?_ ?_) <;> (repeat (first | with_reducible assumption | (simp; done) | (with_reducible first | refine Kd ?_ | refine Kn ?_ | refine Kb (by assumption) ?_) | ((with_reducible first | refine Kw ?_ ?_ | refine Fw ?_) <;> first | with_reducible rfl | (simp; done)) | (with_reducible first | refine Ka _ ?_ | refine Ks _ (by first | exact Nat.le_refl _ | omega | (simp; done) | (simp; omega)) ?_ | refine Fd ?_ | refine Fn ?_ | refine Fb (by assumption) (by first | exact Nat.le_refl _ | omega | (simp; done) | (simp; omega)) ?_ | refine Fa _ (by first | exact Nat.le_refl _ | omega | (simp; done) | (simp; omega)) ?_ | refine Fs _ ?_)))), (by (repeat' refine And.intro ?_ ?_) <;> (repeat (first | with_reducible assumption | (simp; done) | (with_reducible first | refine Kd ?_ | refine Kn ?_ | refine Kb (by assumption) ?_) | ((with_reducible first | refine Kw ?_ ?_ | refine Fw ?_) <;> first | with_reducible rfl | (simp; done)) | (with_reducible first | refine Ka _ ?_ | refine Ks _ (by first | exact Nat.le_refl _ | omega | (simp; done) | (simp; omega)) ?_ | refine Fd ?_ | refine Fn ?_ | refine Fb (by assumption) (by first | exact Nat.le_refl _ | omega | (simp; done) | (simp; omega)) ?_ | refine Fa _ (by first | exact Nat.le_refl _ | omega | (simp; done) | (simp; omega)) ?_ | refine Fs _ ?_))))⟩, (by repeat (first | (with_reducible first | exact Below.refl _ _ | assumption | refine Below.drew ?_) | ((with_reducible first | refine Lc ?_ ?_ _ | refine Ls ?_ ?_ _ | refine Lv (by assumption) ?_ ?_); · first | exact Nat.le_refl _ | omega | (dsimp only; omega) | (simp only [World.size_alloc, World.size_drew, World.heap_drewN]; omega) | (simp; omega)))), by simp⟩ ?_
  rintro w0 ⟨ha0, hb0, hs0⟩
  have HA0 := Lib.hid ha0
  have HB0 := Lib.hid hb0
  obtain ⟨a0, a1, a2⟩ := ha0
  clear hb0
  go_wp2_with fail
  refine (rfitting_any r bA dA vA bc dc vc _ (H0.out.onW HB0.out)).mono ?_
  rintro e w2 ⟨rfl, hb2⟩
  have HB2 := Lib.hid (HB0.out.trans (hb2.mono HB0.out.size))
  have HA2 := Lib.hid (HA0.out.later hb2)
  have hs2 : W.heap.size + 1 ≤ w2.heap.size := Nat.le_trans hs0 hb2.size
  clear hb2 HB0 HA0 a0 a1 a2
  by_cases h0 : r.fitErr = 0
  · have HE : Hid (r.clashErr = 1) := Lib.hid (by
      have hck : r.check = 0 := by
        unfold Rw.fitErr at h0
        by_cases h : r.check = 0
        · exact h
        · rw [if_pos h] at h0; exact h0
      unfold Rw.clashErr Rw.torn; rw [if_neg (by simpa using hck), h0]; rfl)
    rw [h0]
    clear h0
    go_wp2_with fail
    go_ret2
    exact .inr ⟨by rw [HE.out]; decide, by rw [HE.out]; rfl, HB2.out⟩
  · by_cases h7 : r.fitErr = 7
    · have hck : r.check = 0 := by
        unfold Rw.fitErr at h7
        by_cases h : r.check = 0
        · exact h
        · rw [if_pos h] at h7
          have := r.check_bd
          omega
      have HE : Hid (r.clashErr = 0) := Lib.hid (by unfold Rw.clashErr Rw.torn; rw [if_neg (by simpa using hck), h7]; rfl)
      have HOK := Lib.hid (Rw.check_ok.1 hck)
      rw [h7]
      obtain ⟨a0, a1, a2⟩ := HA2.out
      have hmk := mkBl r.m hm1 w2
      clear h0 h7 hck
      go_upto_region 7 with fail
      refine wp_world (fun w' => UseAt w' w2.heap.size r.m (fun _ => false) ∧ Below w2.heap.size w2 w' ∧ w2.heap.size + 1 ≤ w'.heap.size) ⟨UseAt.made _ _, (by repeat (first | (with_reducible first | exact Below.refl _ _ | assumption | refine Below.drew ?_) | ((with_reducible first | refine Lc ?_ ?_ _ | refine Ls ?_ ?_ _ | refine Lv (by assumption) ?_ ?_); · first | exact Nat.le_refl _ | omega | (dsimp only; omega) | (simp only [World.size_alloc, World.size_drew, World.heap_drewN]; omega) | (simp; omega)))), by simp⟩ ?_
      rintro w3 ⟨hu3, hb3, hs3⟩
      have HU3 := Lib.hid hu3
      have HB3 := Lib.hid hb3
      clear hu3 hb3 hmk a0 a1 a2
      go_wp2_with fail
      go_loopw [6] (fun i wr => ∃ k : Nat, k ≤ r.m ∧ i = .int .i64 k ∧ Hid (UseAt wr w2.heap.size r.m (fun j => decide (j < k))) ∧ Hid (Below w2.heap.size w2 wr) ∧ w2.heap.size + 1 ≤ wr.heap.size) (fun i _ => r.m - (intOf i).toNat)
      case atStart => exact ⟨0, Nat.zero_le _, rfl, Lib.hid (by rw [show (fun j => decide (j < 0)) = (fun _ : Nat => false) from funext fun j => by simp]; exact HU3.out), HB3, hs3⟩
      case round =>
        clear HU3 HB3
        obtain ⟨k, hk, rfl, HU, HB, hsz⟩ := hrel
        obtain ⟨wo, rfl⟩ : ∃ wo, wo = wr := ⟨_, rfl⟩
        by_cases hlt : k < r.m
        · have hkn : (k : Int) < (r.m : Int) := by omega
          have hk0 : (0 : Int) ≤ (k : Int) := by omega
          have ek : IntKind.i64.wrap ((k : Int) + 1) = (k : Int) + 1 := IntWalk.i64_in _ (by omega)
          obtain ⟨c0, f0⟩ := HU.out.c k hlt
          have HU4 : Hid (UseAt (wo.setCell ⟨w2.heap.size, k, none⟩ (.bool true)) w2.heap.size r.m (fun j => decide (j < k + 1))) := Lib.hid (by
            have h := HU.out.set hlt true
            have e : (fun j => if j = k then true else decide (j < k)) = (fun j : Nat => decide (j < k + 1)) := by
              funext j
              by_cases e : j = k
              · simp [e]
              · rw [if_neg e]
                by_cases h : j < k
                · simp [h]; omega
                · simp [h]; omega
            rw [e] at h
            exact h)
          have HB4 : Hid (Below w2.heap.size w2 (wo.setCell ⟨w2.heap.size, k, none⟩ (.bool true))) := Lib.hid (HB.out.setCell (by dsimp only; omega) _)
          go_wp2_with fail
          refine ⟨?_, ?measure⟩
          case measure => simp [intOf]; omega
          exact ⟨k + 1, by omega, by go_num, HU4, HB4, by simp only [World.setCell, Array.size_modify]; omega⟩
        · obtain rfl : k = r.m := by omega
          have hge : ¬ (r.m : Int) < (r.m : Int) := by omega
          obtain ⟨w3, rfl⟩ : ∃ w3, w3 = wo := ⟨_, rfl⟩
          have HU3 : Hid (UseAt w3 w2.heap.size r.m (fun _ => true)) := Lib.hid ⟨HU.out.lt, fun q hq => ⟨by rw [(HU.out.c q hq).1, decide_eq_true hq], (HU.out.c q hq).2⟩⟩
          have HB3 := Lib.hid HB.out
          have hs3 : w2.heap.size + 1 ≤ w3.heap.size := hsz
          clear HU HB
          go_wp2_with fail
          go_loopw [7, 8] (fun l i wr => ∃ k : Nat, k ≤ r.m ∧ i = .int .i64 k ∧ Hid (wr.ownsRow (w2.heap.size + 1) 3 1 l (r.clN k).2.length (natV (r.clN k).2)) ∧ Hid (UseAt wr w2.heap.size r.m (fun j => !(r.clN k).1 j)) ∧ Hid (Below w2.heap.size w2 wr) ∧ w2.heap.size + 1 ≤ wr.heap.size) (fun _ i _ => r.m - (intOf i).toNat)
          case atStart => exact ⟨0, Nat.zero_le _, rfl, Lib.hid (World.ownsRow_nil _ _ _ _), HU3, HB3, hs3⟩
          case round =>
            clear HU3 HB3
            obtain ⟨k, hk, rfl, HO, HU, HB, hsz⟩ := hrel
            obtain ⟨wo, rfl⟩ : ∃ wo, wo = wr := ⟨_, rfl⟩
            by_cases hlt : k < r.m
            · have hkn : (k : Int) < (r.m : Int) := by omega
              have hk0 : (0 : Int) ≤ (k : Int) := by omega
              have ek : IntKind.i64.wrap ((k : Int) + 1) = (k : Int) + 1 := IntWalk.i64_in _ (by omega)
              obtain ⟨c0, f0⟩ := HU.out.c k hlt
              obtain ⟨f, hf⟩ : ∃ f : Nat → Bool, f = fun y => if y = k then true else (r.clN k).1 y := ⟨_, rfl⟩
              have HF := Lib.hid hf
              have hU4 : UseAt (wo.setCell ⟨w2.heap.size, k, none⟩ (.bool false)) w2.heap.size r.m (fun j => !f j) := by
                have h := HU.out.set hlt false
                have e : (fun j => if j = k then false else !(r.clN k).1 j) = (fun j : Nat => !f j) := by
                  funext j
                  rw [hf]
                  by_cases e : j = k
                  · simp [e]
                  · simp [e]
                rw [e] at h
                exact h
              have hB4 : Below w2.heap.size w2 (wo.setCell ⟨w2.heap.size, k, none⟩ (.bool false)) := HB.out.setCell (by dsimp only; omega) _
              have hO4 : (wo.setCell ⟨w2.heap.size, k, none⟩ (.bool false)).ownsRow (w2.heap.size + 1) 3 1 u7 (r.clN k).2.length (natV (r.clN k).2) := owns_sm HO.out (fun g h1 h2 => set_heap _ (by dsimp only; omega))
              have hs4 : w2.heap.size + 1 ≤ (wo.setCell ⟨w2.heap.size, k, none⟩ (.bool false)).heap.size := by simp only [World.setCell, Array.size_modify]; omega
              clear hf
              go_upto_region 16 with fail
              refine wp_world (fun w' => UseAt w' w2.heap.size r.m (fun j => !f j) ∧ Below w2.heap.size w2 w' ∧ w'.ownsRow (w2.heap.size + 1) 3 1 u7 (r.clN k).2.length (natV (r.clN k).2) ∧ w2.heap.size + 1 ≤ w'.heap.size) ⟨hU4, hB4, hO4, hs4⟩ ?_
              rintro w4 ⟨hu4, hb4, ho4, hz4⟩
              have HU4 := Lib.hid hu4
              have HB4 := Lib.hid hb4
              have HO4 := Lib.hid ho4
              obtain ⟨a0, a1, a2⟩ := HA2.out.later hb4
              clear hu4 hb4 ho4 hU4 hB4 hO4 hs4 c0 f0 HU HB HO
              go_wp2_with fail
              refine (chosen_any r f (some ⟨w2.heap.size, 0, none⟩) r.m bA dA vA bc dc vc _ (H0.out.onW (HB2.out.trans (HB4.out.mono (by omega)))) HU4.out.bl).mono ?_
              rintro e w5 ⟨A5, c5, rfl, hr5, hb5⟩
              have HR5 := Lib.hid hr5
              have HU5 := Lib.hid (HU4.out.later hb5)
              have HO5 := Lib.hid (owns_later HO4.out hb5)
              have HB5 := Lib.hid (HB4.out.trans (hb5.mono (by omega)))
              have hs5 := hb5.size
              clear hb5 hr5 HU4 HO4 HB4 a0 a1 a2
              go_wp2_with fail
              refine (rclashes_any (r.kp f) (Rw.kp_ok HOK.out f) bA dA A5 bc dc c5 _ HR5.out).mono ?_
              rintro e w6 ⟨rfl, hb6⟩
              rw [Rw.kp_clB HOK.out f]
              have HU6 := Lib.hid (HU5.out.later hb6)
              have HO6 := Lib.hid (owns_later HO5.out hb6)
              have HB6 := Lib.hid (HB5.out.trans (hb6.mono (by omega)))
              have hs6 := hb6.size
              clear hb6 HU5 HO5 HB5 HR5
              have hN : r.clN (k + 1) = if (r.wo f).torn = true then (f, (r.clN k).2) else (fun j => if j = k then false else f j, (r.clN k).2 ++ [k]) := by rw [HF.out]; rfl
              cases ht : (r.wo f).torn with
              | true =>
                have HN : Hid (r.clN (k + 1) = (f, (r.clN k).2)) := Lib.hid (by rw [hN]; exact if_pos ht)
                clear hN ht
                go_wp2_with fail
                refine ⟨?_, ?measure⟩
                case measure => simp [intOf]; omega
                exact ⟨k + 1, by omega, by go_num, by rw [HN.out]; exact HO6, by rw [HN.out]; exact HU6, HB6, by omega⟩
              | false =>
                have HN : Hid (r.clN (k + 1) = (fun j => if j = k then false else f j, (r.clN k).2 ++ [k])) := Lib.hid (by rw [hN]; exact if_neg (by rw [ht]; decide))
                obtain ⟨c0, f0⟩ := HU6.out.c k hlt
                have hU7 : UseAt (w6.setCell ⟨w2.heap.size, k, none⟩ (.bool true)) w2.heap.size r.m (fun j => !(if j = k then false else f j)) := by
                  have h := HU6.out.set hlt true
                  have e : (fun j => if j = k then true else !f j) = (fun j : Nat => !(if j = k then false else f j)) := by
                    funext j
                    by_cases e : j = k
                    · simp [e]
                    · simp [e]
                  rw [e] at h
                  exact h
                have hB7 : Below w2.heap.size w2 (w6.setCell ⟨w2.heap.size, k, none⟩ (.bool true)) := HB6.out.setCell (by dsimp only; omega) _
                have hO7 : (w6.setCell ⟨w2.heap.size, k, none⟩ (.bool true)).ownsRow (w2.heap.size + 1) 3 1 u7 (r.clN k).2.length (natV (r.clN k).2) := owns_sm HO6.out (fun g h1 h2 => set_heap _ (by dsimp only; omega))
                have hs7 : w2.heap.size + 1 ≤ (w6.setCell ⟨w2.heap.size, k, none⟩ (.bool true)).heap.size := by simp only [World.setCell, Array.size_modify]; omega
                clear hN ht
                go_upto_region 18 with fail
                refine wp_world (fun w' => UseAt w' w2.heap.size r.m (fun j => !(if j = k then false else f j)) ∧ Below w2.heap.size w2 w' ∧ w'.ownsRow (w2.heap.size + 1) 3 1 u7 (r.clN k).2.length (natV (r.clN k).2) ∧ w2.heap.size + 1 ≤ w'.heap.size) ⟨hU7, hB7, hO7, hs7⟩ ?_
                rintro w7 ⟨hu7, hb7, ho7, hz7⟩
                have HU7 := Lib.hid hu7
                have HB7 := Lib.hid hb7
                have HO7 := Lib.hid ho7
                clear hu7 hb7 ho7 hU7 hB7 hO7 hs7 c0 f0 HU6 HB6 HO6
                have hv7 := HO7.out.lt
                have hll := r.clN_len k
                go_upto_region 14 with (at_builtin; refine wpList_append_lies _ rfl (.tmp 46) (.tmp 48) 31 rfl (w2.heap.size + 1) 3 i0 (.int .i64 0) 1 8 ints_under hi hz0 hz1 hz2 rfl (by decide) _ (r.clN k).2.length (natV (r.clN k).2) rfl (HO7.out.alloc _) ⟨w7.heap.size, 0, none⟩ 1 1 [.int .i64 (k : Int)] rfl rfl (new_cells (cs := [.int .i64 (k : Int)])) (by intro u hu; simp only [List.mem_cons, List.not_mem_nil, or_false] at hu; subst hu; rfl) (by omega) (by unfold maxLen; omega) (by omega) (by simp; omega) (w7.heap.size + 1) (by simp) ?_; intro g cap w8 hown8 hgr8 hat8 hlt8)
                have hz8 := hgr8.size
                simp only [World.size_alloc] at hz8
                have hk8 : ∀ i, i ≤ w2.heap.size → w8.heap[i]? = w7.heap[i]? := fun i hi => (hgr8.block i (by simp; omega) (fun e => by have := (hv7 i e.symm).1; omega)).trans (Below.heap_alloc _ _ _ (by omega))
                have HO8 := Lib.hid hown8
                have HU8 := Lib.hid (HU7.out.same (by omega) (hk8 _ (Nat.le_refl _)))
                have HB8 : Hid (Below w2.heap.size w2 w8) := Lib.hid (HB7.out.trans ⟨hgr8.os, hgr8.tape, hgr8.output, by omega, fun i hi => hk8 i (by omega)⟩)
                clear hown8 hgr8 hat8 hlt8 hk8
                go_wp2_with fail
                refine ⟨?_, ?measure⟩
                case measure => simp [intOf]; omega
                exact ⟨k + 1, by omega, by go_num, by rw [HN.out, natV_snoc, List.length_append]; exact HO8, by rw [HN.out]; exact HU8, HB8, by omega⟩
            · obtain rfl : k = r.m := by omega
              have hge : ¬ (r.m : Int) < (r.m : Int) := by omega
              go_wp2_with fail
              go_ret2
              exact .inl ⟨HE.out, _, rfl, owns_low (by omega) HO.out, HB2.out.trans (HB.out.mono (by omega))⟩
    · have hn0 : (r.fitErr == 0) = false := by rw [beq_eq_false_iff_ne]; exact h0
      have hn7 : (r.fitErr != 7) = true := by simpa using h7
      have hck : r.check ≠ 0 := fun h => by
        unfold Rw.fitErr at h0 h7
        rw [if_neg (fun hh => hh h)] at h0 h7
        by_cases hl : r.round.length = 0
        · exact h0 (if_pos hl)
        · exact h7 (if_neg hl)
      have HE : Hid (r.clashErr = r.fitErr) := Lib.hid (by unfold Rw.clashErr Rw.fitErr; rw [if_pos hck, if_pos hck])
      have HE0 := Lib.hid h0
      clear h0 h7 hck
      go_wp2_with fail
      go_ret2
      exact .inr ⟨by rw [HE.out]; exact HE0.out, by rw [HE.out]; rfl, HB2.out⟩
end Go.Proofs.YtnnikeolgknfoaaGreat

set_option linter.unusedSimpArgs false
set_option linter.unusedVariables false
namespace Go.Proofs.YtnnikeolgknfoaaGreat

def lexle : List Nat → List Nat → Bool
  | [], _ => true
  | _ :: _, [] => false
  | a :: l, b :: o => decide (a < b) || (decide (a = b) && lexle l o)
theorem lexle_cons {a b : Nat} {l o : List Nat} : lexle (a :: l) (b :: o) = true ↔ a < b ∨ (a = b ∧ lexle l o = true) := by
  simp [lexle]
theorem lexle_refl : ∀ l, lexle l l = true
  | [] => rfl
  | a :: l => lexle_cons.2 (.inr ⟨rfl, lexle_refl l⟩)
theorem lexle_total : ∀ l o : List Nat, l.length = o.length → lexle l o ≠ true → lexle o l = true
  | [], _, _, h => absurd rfl h
  | a :: l, [], h, _ => by simp at h
  | a :: l, b :: o, hl, h => by
    have hl' : l.length = o.length := by simpa using hl
    replace h : ¬ (a < b ∨ (a = b ∧ lexle l o = true)) := fun hh => h (lexle_cons.2 hh)
    rw [lexle_cons]
    by_cases e : b < a
    · exact .inl e
    · by_cases e2 : a = b
      · exact .inr ⟨e2.symm, lexle_total l o hl' (fun h2 => h (.inr ⟨e2, h2⟩))⟩
      · exact absurd (.inl (by omega)) h
theorem lexle_trans : ∀ a b c : List Nat, lexle a b = true → lexle b c = true → lexle a c = true
  | [], _, _, _, _ => rfl
  | x :: a, [], _, h, _ => by simp [lexle] at h
  | x :: a, y :: b, [], _, h => by simp [lexle] at h
  | x :: a, y :: b, z :: c, h1, h2 => by
    rw [lexle_cons] at h1 h2 ⊢
    rcases h1 with h1 | ⟨h1, h3⟩
    · rcases h2 with h2 | ⟨h2, _⟩
      · exact .inl (by omega)
      · exact .inl (by omega)
    · rcases h2 with h2 | ⟨h2, h4⟩
      · exact .inl (by omega)
      · exact .inr ⟨by omega, lexle_trans a b c h3 h4⟩
theorem lexle_anti : ∀ l o : List Nat, l.length = o.length → lexle l o = true → lexle o l = true → l = o
  | [], [], _, _, _ => rfl
  | [], _ :: _, h, _, _ => by simp at h
  | _ :: _, [], h, _, _ => by simp at h
  | a :: l, b :: o, hl, h1, h2 => by
    have hl' : l.length = o.length := by simpa using hl
    rw [lexle_cons] at h1 h2
    rcases h1 with h1 | ⟨h1, h3⟩
    · rcases h2 with h2 | ⟨h2, _⟩ <;> omega
    · rcases h2 with h2 | ⟨h2, h4⟩
      · omega
      · rw [h1, lexle_anti l o hl' h3 h4]
theorem cmpN_shift (X Y : Nat → Int) : ∀ k, cmpN X Y (k + 1) = if cmpZ (X 0) (Y 0) = 0 then cmpN (fun j => X (j + 1)) (fun j => Y (j + 1)) k else cmpZ (X 0) (Y 0)
  | 0 => by
    show (if (0 : Int) = 0 then cmpZ (X 0) (Y 0) else 0) = if cmpZ (X 0) (Y 0) = 0 then 0 else cmpZ (X 0) (Y 0)
    rw [if_pos rfl]
    split
    · assumption
    · rfl
  | k + 1 => by
    show (if cmpN X Y (k + 1) = 0 then cmpZ (X (k + 1)) (Y (k + 1)) else cmpN X Y (k + 1)) = _
    rw [cmpN_shift X Y k]
    by_cases h : cmpZ (X 0) (Y 0) = 0
    · rw [if_pos h, if_pos h]
      rfl
    · rw [if_neg h, if_neg h, if_neg h]
theorem cmp_lex : ∀ l o : List Nat, l.length = o.length → (0 ≤ cmpN (numOf l) (numOf o) l.length ↔ lexle o l = true)
  | [], [], _ => ⟨fun _ => rfl, fun _ => Int.le_refl _⟩
  | [], _ :: _, h => by simp at h
  | _ :: _, [], h => by simp at h
  | a :: l, b :: o, hl => by
    have hl' : l.length = o.length := by simpa using hl
    have ih := cmp_lex l o hl'
    rw [List.length_cons, cmpN_shift, lexle_cons]
    have e1 : (fun j => numOf (a :: l) (j + 1)) = numOf l := by funext j; simp [numOf]
    have e2 : (fun j => numOf (b :: o) (j + 1)) = numOf o := by funext j; simp [numOf]
    have e3 : numOf (a :: l) 0 = (a : Int) := by simp [numOf]
    have e4 : numOf (b :: o) 0 = (b : Int) := by simp [numOf]
    rw [e1, e2, e3, e4, ← ih]
    unfold cmpZ
    rcases Nat.lt_trichotomy a b with h | h | h
    · simp only [show ((a : Int) < (b : Int)) from by omega, if_true]
      simp
      omega
    · subst h
      simp
    · simp only [show ¬ ((a : Int) < (b : Int)) from by omega, show ((b : Int) < (a : Int)) from by omega, if_true, if_false]
      simp
      omega
/-- a list is at least as good -/
def le2 (o l : List Nat) : Prop := o.length < l.length ∨ (l.length = o.length ∧ lexle o l = true)
theorem worse_iff {l o : List Nat} : worse l o = true ↔ le2 o l := by
  unfold worse le2
  rw [Bool.or_eq_true_iff, Bool.and_eq_true_iff, decide_eq_true_eq, decide_eq_true_eq, decide_eq_true_eq]
  constructor
  · rintro (h | ⟨h1, h2⟩)
    · exact .inl h
    · exact .inr ⟨h1, (cmp_lex l o h1).1 h2⟩
  · rintro (h | ⟨h1, h2⟩)
    · exact .inl h
    · exact .inr ⟨h1, (cmp_lex l o h1).2 h2⟩
theorem le2_refl (l : List Nat) : le2 l l := .inr ⟨rfl, lexle_refl l⟩
theorem le2_trans {a b c : List Nat} (h1 : le2 a b) (h2 : le2 b c) : le2 a c := by
  rcases h1 with h1 | ⟨h1, h3⟩
  · rcases h2 with h2 | ⟨h2, _⟩ <;> exact .inl (by omega)
  · rcases h2 with h2 | ⟨h2, h4⟩
    · exact .inl (by omega)
    · exact .inr ⟨by omega, lexle_trans _ _ _ h3 h4⟩
theorem le2_total {a b : List Nat} (h : ¬ le2 a b) : le2 b a := by
  unfold le2 at h ⊢
  by_cases h1 : b.length < a.length
  · exact .inl h1
  · by_cases h2 : a.length < b.length
    · exact absurd (.inl h2) h
    · exact .inr ⟨by omega, lexle_total _ _ (by omega) (fun h3 => h (.inr ⟨by omega, h3⟩))⟩
/-- what Fewest's loop keeps, with the order -/
def FwSpec2 (r : Rw) (s : Nat) : Option (List Nat) → Prop
  | none => ∀ t, t < s → ¬ ∃ X, r.fitsO (pickF t r.m) X
  | some o => (∃ t, t < s ∧ o = pickL t r.m ∧ ∃ X, r.fitsO (pickF t r.m) X) ∧ ∀ t, t < s → (∃ X, r.fitsO (pickF t r.m) X) → le2 o (pickL t r.m)
theorem Rw.fwN_spec2 {r : Rw} (hr : r.ok) : ∀ s, FwSpec2 r s (r.fwN s)
  | 0 => fun t ht => absurd ht (by omega)
  | s + 1 => by
    have ih := Rw.fwN_spec2 hr s
    cases hq : r.fwN s with
    | none =>
      rw [hq] at ih
      rw [Rw.fwN_none hq]
      split
      · rename_i ht
        have hno := (Rw.wo_torn hr _).1 ht
        intro t h1
        rcases Nat.lt_or_ge t s with h2 | h2
        · exact ih t h2
        · have : t = s := by omega
          subst this
          exact hno
      · rename_i ht
        have hX : ∃ X, r.fitsO (pickF s r.m) X := Classical.not_not.1 (fun hn => ht ((Rw.wo_torn hr _).2 hn))
        refine ⟨⟨s, by omega, rfl, hX⟩, fun t h1 hT => ?_⟩
        rcases Nat.lt_or_ge t s with h2 | h2
        · exact absurd hT (ih t h2)
        · have : t = s := by omega
          subst this
          exact le2_refl _
    | some o =>
      rw [hq] at ih
      obtain ⟨⟨t0, h0, e0, hX0⟩, hm⟩ := ih
      rw [Rw.fwN_some hq]
      by_cases hw : worse (pickL s r.m) o = true
      · rw [if_pos hw]
        have hl := worse_iff.1 hw
        refine ⟨⟨t0, by omega, e0, hX0⟩, fun t h1 hT => ?_⟩
        rcases Nat.lt_or_ge t s with h2 | h2
        · exact hm t h2 hT
        · have : t = s := by omega
          subst this
          exact hl
      · rw [if_neg hw]
        have hl : le2 (pickL s r.m) o := le2_total (fun h => hw (worse_iff.2 h))
        by_cases ht : (r.wo (pickF s r.m)).torn = true
        · rw [if_pos ht]
          have hno := (Rw.wo_torn hr _).1 ht
          refine ⟨⟨t0, by omega, e0, hX0⟩, fun t h1 hT => ?_⟩
          rcases Nat.lt_or_ge t s with h2 | h2
          · exact hm t h2 hT
          · have : t = s := by omega
            subst this
            exact absurd hT hno
        · rw [if_neg ht]
          have hX : ∃ X, r.fitsO (pickF s r.m) X := Classical.not_not.1 (fun hn => ht ((Rw.wo_torn hr _).2 hn))
          refine ⟨⟨s, by omega, rfl, hX⟩, fun t h1 hT => ?_⟩
          rcases Nat.lt_or_ge t s with h2 | h2
          · exact le2_trans hl (hm t h2 hT)
          · have : t = s := by omega
            subst this
            exact le2_refl _
/-! ### lists that go up -/
def incL : Nat → Nat → List Nat → Prop
  | _, _, [] => True
  | i, m, a :: l => i ≤ a ∧ a < m ∧ incL (a + 1) m l
theorem incL.up {m : Nat} : ∀ {i : Nat} {l : List Nat}, incL i m l → incL i (m + 1) l
  | _, [], _ => trivial
  | _, _ :: _, h => ⟨h.1, by have := h.2.1; omega, incL.up h.2.2⟩
theorem incL.low {m : Nat} : ∀ {i i' : Nat} {l : List Nat}, i' ≤ i → incL i m l → incL i' m l
  | _, _, [], _, _ => trivial
  | _, _, _ :: _, hi, h => ⟨Nat.le_trans hi h.1, h.2.1, h.2.2⟩
theorem incL.snoc {k : Nat} : ∀ {i : Nat} {l : List Nat}, i ≤ k → incL i k l → incL i (k + 1) (l ++ [k])
  | _, [], hi, _ => ⟨hi, Nat.lt_succ_self _, trivial⟩
  | _, a :: l, _, h => ⟨h.1, by have := h.2.1; omega, incL.snoc (by have := h.2.1; omega) h.2.2⟩
theorem inc_pick (s : Nat) : ∀ k, incL 0 k (pickL s k)
  | 0 => trivial
  | k + 1 => by
    have ih := inc_pick s k
    unfold pickL
    split
    · exact ih.snoc (Nat.zero_le _)
    · exact ih.up
theorem incL.mem {m : Nat} : ∀ {i : Nat} {l : List Nat}, incL i m l → ∀ x, x ∈ l → i ≤ x ∧ x < m
  | _, [], _, x, h => by cases h
  | i, a :: l, h, x, hx => by
    rcases List.mem_cons.1 hx with rfl | hx
    · exact ⟨h.1, h.2.1⟩
    · have := incL.mem h.2.2 x hx
      have := h.1
      omega
theorem inc_ext {m : Nat} : ∀ {i : Nat} {l o : List Nat}, incL i m l → incL i m o → (∀ x, x ∈ l ↔ x ∈ o) → l = o
  | _, [], [], _, _, _ => rfl
  | _, [], b :: o, _, _, h => by have := (h b).2 (by simp); cases this
  | _, a :: l, [], _, _, h => by have := (h a).1 (by simp); cases this
  | i, a :: l, b :: o, hl, ho, h => by
    have hab : a = b := by
      rcases List.mem_cons.1 ((h a).1 (by simp)) with e | e
      · exact e
      · rcases List.mem_cons.1 ((h b).2 (by simp)) with e2 | e2
        · exact e2.symm
        · have := ho.2.2.mem a e
          have := hl.2.2.mem b e2
          omega
    subst hab
    rw [inc_ext hl.2.2 ho.2.2 (fun x => ⟨fun hx => by
      rcases List.mem_cons.1 ((h x).1 (List.mem_cons_of_mem _ hx)) with e | e
      · have := hl.2.2.mem x hx; omega
      · exact e, fun hx => by
      rcases List.mem_cons.1 ((h x).2 (List.mem_cons_of_mem _ hx)) with e | e
      · have := ho.2.2.mem x hx; omega
      · exact e⟩)]
theorem bits_of (f : Nat → Bool) : ∀ m, ∃ t, t < 2 ^ m ∧ ∀ j, j < m → t.testBit j = f j
  | 0 => ⟨0, by simp, fun j hj => absurd hj (by omega)⟩
  | m + 1 => by
    obtain ⟨t, h1, h2⟩ := bits_of f m
    have hp : 2 ^ m < 2 ^ (m + 1) := Nat.pow_lt_pow_right (by decide) (by omega)
    have ht : t.testBit m = false := Nat.testBit_lt_two_pow h1
    cases e : f m with
    | false =>
      refine ⟨t, by omega, fun j hj => ?_⟩
      by_cases ej : j = m
      · subst ej; rw [ht, e]
      · exact h2 j (by omega)
    | true =>
      refine ⟨t ||| 2 ^ m, Nat.or_lt_two_pow (by omega) hp, fun j hj => ?_⟩
      rw [Nat.testBit_or, Nat.testBit_two_pow]
      by_cases ej : j = m
      · subst ej; simp [e]
      · rw [h2 j (by omega)]; simp [show ¬ m = j from fun h => ej h.symm]
theorem inc_is_pick {m : Nat} {l : List Nat} (h : incL 0 m l) : ∃ t, t < 2 ^ m ∧ pickL t m = l := by
  obtain ⟨t, h1, h2⟩ := bits_of (fun j => decide (j ∈ l)) m
  refine ⟨t, h1, inc_ext (inc_pick t m) h (fun x => ?_)⟩
  rw [pickL_mem]
  constructor
  · rintro ⟨a, b⟩
    rw [h2 x a] at b
    exact of_decide_eq_true b
  · intro hx
    have := (h.mem x hx).2
    exact ⟨this, by rw [h2 x this]; exact decide_eq_true hx⟩
/-! ### as the reference seeks -/
def lvF (m : Nat) (rec : (Nat → Bool) → Nat → Option (List Nat)) (out : Nat → Bool) : Nat → Nat → Option (List Nat)
  | 0, _ => none
  | d + 1, i => match rec (fun j => if j = i then true else out j) (i + 1) with
    | some l => some (i :: l)
    | none => lvF m rec out d (i + 1)
def Rw.lv (r : Rw) : Nat → (Nat → Bool) → Nat → Option (List Nat)
  | 0, out, _ => if (r.wo out).torn = true then none else some []
  | q + 1, out, i => lvF r.m (r.lv q) out (r.m - i) i
def Rw.fitsL (r : Rw) (out : Nat → Bool) (l : List Nat) : Prop := ∃ X, r.fitsO (fun j => out j || decide (j ∈ l)) X
def LvSpec (r : Rw) (q : Nat) (out : Nat → Bool) (i : Nat) : Option (List Nat) → Prop
  | none => ∀ l, incL i r.m l → l.length = q → ¬ r.fitsL out l
  | some l => incL i r.m l ∧ l.length = q ∧ r.fitsL out l ∧ ∀ l', incL i r.m l' → l'.length = q → r.fitsL out l' → lexle l l' = true
theorem fitsL_nil {r : Rw} {out : Nat → Bool} : r.fitsL out [] ↔ ∃ X, r.fitsO out X := by
  unfold Rw.fitsL
  rw [show (fun j => out j || decide (j ∈ ([] : List Nat))) = out from funext fun j => by simp]
theorem fitsL_cons {r : Rw} {out : Nat → Bool} {i : Nat} {l : List Nat} : r.fitsL out (i :: l) ↔ r.fitsL (fun j => if j = i then true else out j) l := by
  unfold Rw.fitsL
  rw [show (fun j => out j || decide (j ∈ i :: l)) = (fun j => (if j = i then true else out j) || decide (j ∈ l)) from funext fun j => by
    by_cases e : j = i
    · simp [e]
    · simp [e]]
theorem Rw.lv_spec {r : Rw} (hr : r.ok) : ∀ q out i, i ≤ r.m → LvSpec r q out i (r.lv q out i)
  | 0, out, i, _ => by
    unfold Rw.lv
    split
    · rename_i ht
      intro l _ hl
      have : l = [] := List.length_eq_zero_iff.1 hl
      subst this
      rw [fitsL_nil]
      exact (Rw.wo_torn hr _).1 ht
    · rename_i ht
      exact ⟨trivial, rfl, fitsL_nil.2 (Classical.not_not.1 (fun hn => ht ((Rw.wo_torn hr _).2 hn))), fun l' _ _ _ => rfl⟩
  | q + 1, out, i, hi => by
    have ih := Rw.lv_spec hr q
    have key : ∀ d i, i + d = r.m → LvSpec r (q + 1) out i (lvF r.m (r.lv q) out d i) := by
      intro d
      induction d with
      | zero =>
        intro i hi l hl hq
        cases l with
        | nil => simp at hq
        | cons a l => have := hl.1; have := hl.2.1; omega
      | succ d ihd =>
        intro i hi
        have h1 := ih (fun j => if j = i then true else out j) (i + 1) (by omega)
        have h2 := ihd (i + 1) (by omega)
        unfold lvF
        cases hq : r.lv q (fun j => if j = i then true else out j) (i + 1) with
        | some l =>
          rw [hq] at h1
          obtain ⟨g1, g2, g3, g4⟩ := h1
          refine ⟨⟨Nat.le_refl _, by omega, g1⟩, by simp [g2], fitsL_cons.2 g3, fun l' hl' hlen hf => ?_⟩
          cases l' with
          | nil => simp at hlen
          | cons a l' =>
            rw [lexle_cons]
            by_cases e : i = a
            · subst e
              exact .inr ⟨rfl, g4 l' hl'.2.2 (by simpa using hlen) (fitsL_cons.1 hf)⟩
            · exact .inl (by have := hl'.1; omega)
        | none =>
          rw [hq] at h1
          have hno : ∀ l', incL i r.m l' → l'.length = q + 1 → r.fitsL out l' → incL (i + 1) r.m l' := by
            intro l' hl' hlen hf
            cases l' with
            | nil => simp at hlen
            | cons a l' =>
              by_cases e : i = a
              · subst e
                exact absurd (fitsL_cons.1 hf) (h1 l' hl'.2.2 (by simpa using hlen))
              · exact ⟨by have := hl'.1; omega, hl'.2.1, hl'.2.2⟩
          show LvSpec r (q + 1) out i (lvF r.m (r.lv q) out d (i + 1))
          cases hq2 : lvF r.m (r.lv q) out d (i + 1) with
          | none =>
            rw [hq2] at h2
            exact fun l hl hlen hf => h2 l (hno l hl hlen hf) hlen hf
          | some l =>
            rw [hq2] at h2
            obtain ⟨g1, g2, g3, g4⟩ := h2
            exact ⟨g1.low (by omega), g2, g3, fun l' hl' hlen hf => g4 l' (hno l' hl' hlen hf) hlen hf⟩
    exact key (r.m - i) i (by omega)
theorem pick_fits {r : Rw} {t : Nat} {l : List Nat} (h : pickL t r.m = l) : r.fitsL (fun _ => false) l ↔ ∃ X, r.fitsO (pickF t r.m) X := by
  unfold Rw.fitsL
  rw [show (fun j => false || decide (j ∈ l)) = pickF t r.m from funext fun j => by
    rw [Bool.false_or, Bool.eq_iff_iff, decide_eq_true_eq, pickF_iff, h]]
theorem Rw.few_lv {r : Rw} (hr : r.ok) : (∀ q, q < r.fewL.length → r.lv q (fun _ => false) 0 = none) ∧ r.lv r.fewL.length (fun _ => false) 0 = some r.fewL := by
  obtain ⟨t0, ht0, he0, hX0, -⟩ := Rw.fewL_spec hr
  have hmin : ∀ t, t < 2 ^ r.m → (∃ X, r.fitsO (pickF t r.m) X) → le2 r.fewL (pickL t r.m) := by
    have h := Rw.fwN_spec2 hr (2 ^ r.m)
    cases hq : r.fwN (2 ^ r.m) with
    | none =>
      rw [hq] at h
      exact absurd hX0 (h t0 ht0)
    | some o =>
      rw [hq] at h
      have e : r.fewL = o := by unfold Rw.fewL; rw [hq]; rfl
      rw [e]
      exact h.2
  constructor
  · intro q hq
    have h := Rw.lv_spec hr q (fun _ => false) 0 (Nat.zero_le _)
    cases e : r.lv q (fun _ => false) 0 with
    | none => rfl
    | some l =>
      rw [e] at h
      obtain ⟨g1, g2, g3, -⟩ := h
      obtain ⟨t, h1, h2⟩ := inc_is_pick g1
      have h3 := hmin t h1 ((pick_fits h2).1 g3)
      rw [h2] at h3
      rcases h3 with h3 | ⟨h3, _⟩ <;> omega
  · have h := Rw.lv_spec hr r.fewL.length (fun _ => false) 0 (Nat.zero_le _)
    have hf : r.fitsL (fun _ => false) r.fewL := (pick_fits he0.symm).2 hX0
    have hi : incL 0 r.m r.fewL := by rw [he0]; exact inc_pick _ _
    cases e : r.lv r.fewL.length (fun _ => false) 0 with
    | none =>
      rw [e] at h
      exact absurd hf (h _ hi rfl)
    | some l =>
      rw [e] at h
      obtain ⟨g1, g2, g3, g4⟩ := h
      obtain ⟨t, h1, h2⟩ := inc_is_pick g1
      have h3 := hmin t h1 ((pick_fits h2).1 g3)
      rw [h2] at h3
      rcases h3 with h3 | ⟨h3, h4⟩
      · omega
      · rw [lexle_anti l r.fewL g2 (g4 _ hi rfl hf) h4]
end Go.Proofs.YtnnikeolgknfoaaGreat

set_option linter.unusedSimpArgs false
set_option linter.unusedVariables false
namespace Go.Proofs.YtnnikeolgknfoaaGreat
open Go.RowKit Go.Shelf

theorem wpList_append_noneI {P : Program} {w : World} {ops : Array Oper} {rest : List Oper} {o : Oper} {a : Act} {Q : Exit → Act → World → Prop} (hgd : o.guard = none) (s x : Operand) (t : TypeId)
    (ho : o.op = .call { callee := .builtin .append, args := #[s, x], argTypes := #[t, t] }) (base : Nat) (e : TypeId) (i : TypeInfo) (size : Nat) (ht : P.underlying t = some (.slice e)) (hi : P.info? e = some i)
    (v : Value) (n : Nat) (xs : List Value) (hs : a.eval s = v) (hown : w.ownsRow base e size v n xs) (hx : a.eval x = .slice none 0 0)
    (h : wpList P ops Q rest (a.put o.dst v) w) : wpList P ops Q (o :: rest) a w :=
  wpList_plain hgd fun _ hK => by
    have hr := run_append_owned_none (P := P) w base t o.type e i size ht hi v n xs hown
    unfold Oper.wp execOp
    simp only [ho, resolve, invoke, builtin, Sem.run_bind, Sem.run_pure, Result.andThen_ok, List.map_toArray, List.map_cons, List.map_nil, hs, hx, hr]
    exact hK _ _ h
/-- what leave returns -/
def LvPost (m : Nat) (res : Option (List Nat)) (g : Nat) (u : Nat → Bool) (W : World) (e : Ending) (W' : World) : Prop :=
  ∃ v, e = .returned (.tuple #[v, .bool res.isSome]) ∧ W'.ownsRow W.heap.size 3 1 v (res.getD []).length (natV (res.getD [])) ∧ (res.getD [] = [] → v = .slice none 0 0) ∧ UseAt W' g m u ∧ W.grownBy W' (some g)
theorem natV_cons (k : Nat) (l : List Nat) : natV (k :: l) = [.int .i64 (k : Int)] ++ natV l := rfl
theorem lvF_some {m : Nat} {rec : (Nat → Bool) → Nat → Option (List Nat)} {out : Nat → Bool} {d i : Nat} {l : List Nat} (h : rec (fun j => if j = i then true else out j) (i + 1) = some l) : lvF m rec out (d + 1) i = some (i :: l) := by
  unfold lvF; rw [h]
theorem lvF_none {m : Nat} {rec : (Nat → Bool) → Nat → Option (List Nat)} {out : Nat → Bool} {d i : Nat} (h : rec (fun j => if j = i then true else out j) (i + 1) = none) : lvF m rec out (d + 1) i = lvF m rec out d (i + 1) := by
  conv => lhs; unfold lvF
  rw [h]

set_option maxRecDepth 100000 in
set_option maxHeartbeats 8000000 in
theorem leave_any (r : Rw) (hr : r.ok) (g : Nat) (bA dA vA : Option Addr) (bc dc vc uc : Nat) : ∀ (q : Nat) (z : Int) (hz : z = (q : Int)) (hq : q ≤ 1000) (out : Nat → Bool) (i : Nat) (hi : i ≤ r.m) (hout : ∀ j, i ≤ j → out j = false) (W : World) (hrow : RwRow W g r bA bc dA dc vA vc) (hu : UseAt W g r.m (fun j => !out j)),
    Calls Tryz.prog 76 #[rwV bA r.n bc dA r.d dc vA r.m vc, .slice (some ⟨g, 0, none⟩) r.m uc, .int .i64 (i : Int), .int .i64 z] W (LvPost r.m (r.lv q out i) g (fun j => !out j) W) := by
  obtain ⟨i0, hi0, hz0, hz1, hz2⟩ := info_parts infoInt
  have HOK := Lib.hid hr
  intro q
  induction q with
  | zero =>
    intro z hz hq out i hi hout W hrow hu
    subst hz
    have H0 := Lib.hid hrow
    have HU := Lib.hid hu
    have hgl := hu.lt
    clear hrow hu hr hout
    go_enter Tryz.func76, Tryz.ntmps76
    go_upto_region 1 with fail
    refine wp_world (fun w' => RwAt w' W.heap.size r bA bc dA dc vA vc ∧ Below W.heap.size W w') ⟨⟨(by (repeat' refine And.intro ?_ ?_) <;> (repeat (first | with_reducible assumption | (simp; done) | (with_reducible first | refine Kd ?_ | refine Kn ?_ | refine Kb (by assumption) ?_) | ((with_reducible first | refine Kw ?_ ?_ | refine Fw ?_) <;> first | with_reducible rfl | (simp; done)) | (with_reducible first | refine Ka _ ?_ | refine Ks _ (by first | exact Nat.le_refl _ | omega | (simp; done) | (simp; omega)) ?_ | refine Fd ?_ | refine Fn ?_ | refine Fb (by assumption) (by first | exact Nat.le_refl _ | omega | (simp; done) | (simp; omega)) ?_ | refine Fa _ (by first | exact Nat.le_refl _ | omega | (simp; done) | (simp; omega)) ?_ | refine Fs _ ?_)))), (by (repeat' refine And.intro ?_ ?_) <;> (repeat (first | with_reducible assumption | (simp; done) | (with_reducible first | refine Kd ?_ | refine Kn ?_ | refine Kb (by assumption) ?_) | ((with_reducible first | refine Kw ?_ ?_ | refine Fw ?_) <;> first | with_reducible rfl | (simp; done)) | (with_reducible first | refine Ka _ ?_ | refine Ks _ (by first | exact Nat.le_refl _ | omega | (simp; done) | (simp; omega)) ?_ | refine Fd ?_ | refine Fn ?_ | refine Fb (by assumption) (by first | exact Nat.le_refl _ | omega | (simp; done) | (simp; omega)) ?_ | refine Fa _ (by first | exact Nat.le_refl _ | omega | (simp; done) | (simp; omega)) ?_ | refine Fs _ ?_)))), (by (repeat' refine And.intro ?_ ?_) <;> (repeat (first | with_reducible assumption | (simp; done) | (with_reducible first | refine Kd ?_ | refine Kn ?_ | refine Kb (by assumption) ?_) | ((with_reducible first | refine Kw ?_ ?_ | refine Fw ?_) <;> first | with_reducible rfl | (simp; done)) | (with_reducible first | refine Ka _ ?_ | refine Ks _ (by first | exact Nat.le_refl _ | omega | (simp; done) | (simp; omega)) ?_ | refine Fd ?_ | refine Fn ?_ | refine Fb (by assumption) (by first | exact Nat.le_refl _ | omega | (simp; done) | (simp; omega)) ?_ | refine Fa _ (by first | exact Nat.le_refl _ | omega | (simp; done) | (simp; omega)) ?_ | refine Fs _ ?_))))⟩, (by repeat (first | (with_reducible first | exact Below.refl _ _ | assumption | refine Below.drew ?_) | ((with_reducible first | refine Lc ?_ ?_ _ | refine Ls ?_ ?_ _ | refine Lv (by assumption) ?_ ?_); · first | exact Nat.le_refl _ | omega | (dsimp only; omega) | (simp only [World.size_alloc, World.size_drew, World.heap_drewN]; omega) | (simp; omega))))⟩ ?_
    rintro w1 ⟨⟨a0, a1, a2⟩, hb1⟩
    have HB1 := Lib.hid hb1
    have HU1 := Lib.hid (HU.out.later hb1)
    have H1 := Lib.hid ((H0.out.later (hb1.mono (by omega))).up (by have := hb1.size; omega) (Nat.le_refl w1.heap.size))
    clear hb1 HU
    go_wp2_with fail
    refine (chosen_any r out (some ⟨g, 0, none⟩) uc bA dA vA bc dc vc _ H1.out HU1.out.bl).mono ?_
    rintro e w5 ⟨A5, c5, rfl, hr5, hb5⟩
    have HR5 := Lib.hid hr5
    have HU5 := Lib.hid (HU1.out.later hb5)
    have HB5 := Lib.hid (HB1.out.trans (hb5.mono HB1.out.size))
    clear hb5 hr5 a0 a1 a2 HU1 HB1 H1
    go_wp2_with fail
    refine (rclashes_any (r.kp out) (Rw.kp_ok HOK.out out) bA dA A5 bc dc c5 _ HR5.out).mono ?_
    rintro e w6 ⟨rfl, hb6⟩
    rw [Rw.kp_clB HOK.out out]
    have HU6 := Lib.hid (HU5.out.later hb6)
    have HB6 := Lib.hid (HB5.out.trans (hb6.mono HB5.out.size))
    clear hb6 HU5 HB5 HR5
    have hN : r.lv 0 out i = if (r.wo out).torn = true then none else some [] := rfl
    cases ht : (r.wo out).torn with
    | true =>
      have HN : Hid (r.lv 0 out i = none) := Lib.hid (by rw [hN, if_pos ht])
      clear hN ht
      go_wp2_with fail
      go_ret2
      exact ⟨_, by rw [HN.out]; rfl, by rw [HN.out]; exact World.ownsRow_nil _ _ _ _, fun _ => rfl, HU6.out, gb_of_below _ HB6.out⟩
    | false =>
      have HN : Hid (r.lv 0 out i = some []) := Lib.hid (by rw [hN, if_neg (by rw [ht]; decide)])
      clear hN ht
      go_wp2_with fail
      go_ret2
      exact ⟨_, by rw [HN.out]; rfl, by rw [HN.out]; exact World.ownsRow_nil _ _ _ _, fun _ => rfl, HU6.out, gb_of_below _ HB6.out⟩
  | succ q ih =>
    intro z hz hq out i hi hout W hrow hu
    have H0 := Lib.hid hrow
    have HU := Lib.hid hu
    have hgl := hu.lt
    have HOUT := Lib.hid hout
    have IH := Lib.hid ih
    have hzq : (z == 0) = false := by rw [beq_eq_false_iff_ne]; omega
    have ezq : IntKind.i64.wrap (z - 1) = (q : Int) := by rw [show z - 1 = (q : Int) by omega]; exact IntWalk.i64_in _ (by omega)
    have hm1 := hrow.m1
    clear hrow hu hr hout ih hz
    go_enter Tryz.func76, Tryz.ntmps76
    go_upto_region 1 with fail
    refine wp_world (fun w' => RwAt w' W.heap.size r bA bc dA dc vA vc ∧ Below W.heap.size W w' ∧ W.heap.size + 1 ≤ w'.heap.size) ⟨⟨(by (repeat' refine And.intro ?_ ?_) <;> (repeat (first | with_reducible assumption | (simp; done) | (with_reducible first | refine Kd ?_ | refine Kn ?_ | refine Kb (by assumption) ?_) | ((with_reducible first | refine Kw ?_ ?_ | refine Fw ?_) <;> first | with_reducible rfl | (simp; done)) | (with_reducible first | refine Ka _ ?_ | refine Ks _ (by first | exact Nat.le_refl _ | omega | (simp; done) | (simp; omega)) ?_ | refine Fd ?_ | refine Fn ?_ | refine Fb (by assumption) (by first | exact Nat.le_refl _ | omega | (simp; done) | (simp; omega)) ?_ | refine Fa _ (by first | exact Nat.le_refl _ | omega | (simp; done) | (simp; omega)) ?_ | refine Fs _ ?_)))), (by (repeat' refine And.intro ?_ ?_) <;> (repeat (first | with_reducible assumption | (simp; done) | (with_reducible first | refine Kd ?_ | refine Kn ?_ | refine Kb (by assumption) ?_) | ((with_reducible first | refine Kw ?_ ?_ | refine Fw ?_) <;> first | with_reducible rfl | (simp; done)) | (with_reducible first | refine Ka _ ?_ | refine Ks _ (by first | exact Nat.le_refl _ | omega | (simp; done) | (simp; omega)) ?_ | refine Fd ?_ | refine Fn ?_ | refine Fb (by assumption) (by first | exact Nat.le_refl _ | omega | (simp; done) | (simp; omega)) ?_ | refine Fa _ (by first | exact Nat.le_refl _ | omega | (simp; done) | (simp; omega)) ?_ | refine Fs _ ?_)))), (by (repeat' refine And.intro ?_ ?_) <;> (repeat (first | with_reducible assumption | (simp; done) | (with_reducible first | refine Kd ?_ | refine Kn ?_ | refine Kb (by assumption) ?_) | ((with_reducible first | refine Kw ?_ ?_ | refine Fw ?_) <;> first | with_reducible rfl | (simp; done)) | (with_reducible first | refine Ka _ ?_ | refine Ks _ (by first | exact Nat.le_refl _ | omega | (simp; done) | (simp; omega)) ?_ | refine Fd ?_ | refine Fn ?_ | refine Fb (by assumption) (by first | exact Nat.le_refl _ | omega | (simp; done) | (simp; omega)) ?_ | refine Fa _ (by first | exact Nat.le_refl _ | omega | (simp; done) | (simp; omega)) ?_ | refine Fs _ ?_))))⟩, (by repeat (first | (with_reducible first | exact Below.refl _ _ | assumption | refine Below.drew ?_) | ((with_reducible first | refine Lc ?_ ?_ _ | refine Ls ?_ ?_ _ | refine Lv (by assumption) ?_ ?_); · first | exact Nat.le_refl _ | omega | (dsimp only; omega) | (simp only [World.size_alloc, World.size_drew, World.heap_drewN]; omega) | (simp; omega)))), by simp⟩ ?_
    rintro w1 ⟨ha1, hb1, hs1⟩
    have HA1 := Lib.hid ha1
    have HG1 := Lib.hid (gb_of_below g hb1)
    have HU1 := Lib.hid (HU.out.later hb1)
    have HRF := Lib.hid (World.grownBy.refl w1 (some g))
    clear hb1 ha1 HU
    go_wp2_with fail
    go_loopw [10] (fun x wr => ∃ k : Nat, i ≤ k ∧ k ≤ r.m ∧ x = .int .i64 k ∧ Hid (r.lv (q + 1) out i = lvF r.m (r.lv q) out (r.m - k) k) ∧ Hid (UseAt wr g r.m (fun j => !out j)) ∧ Hid (w1.grownBy wr (some g))) (fun x _ => r.m - (intOf x).toNat)
    case atStart => exact ⟨i, Nat.le_refl _, hi, rfl, Lib.hid rfl, HU1, HRF⟩
    case round =>
      clear HU1 HRF
      obtain ⟨k, hik, hk, rfl, HL, HU, HG⟩ := hrel
      obtain ⟨wo, rfl⟩ : ∃ wo, wo = wr := ⟨_, rfl⟩
      have hgs := HG.out.size
      by_cases hlt : k < r.m
      · have hkn : (k : Int) < (r.m : Int) := by omega
        have hk0 : (0 : Int) ≤ (k : Int) := by omega
        have ek : IntKind.i64.wrap ((k : Int) + 1) = ((k + 1 : Nat) : Int) := by rw [IntWalk.i64_in _ (by omega)]; omega
        obtain ⟨c0, f0⟩ := HU.out.c k hlt
        have hok := HOUT.out k hik
        obtain ⟨f, hf⟩ : ∃ f : Nat → Bool, f = fun y => if y = k then true else out y := ⟨_, rfl⟩
        have HF := Lib.hid hf
        have hU4 : UseAt (wo.setCell ⟨g, k, none⟩ (.bool false)) g r.m (fun j => !f j) := by
          have h := HU.out.set hlt false
          have e : (fun j => if j = k then false else !out j) = (fun j : Nat => !f j) := by
            funext j
            rw [hf]
            by_cases e : j = k
            · simp [e]
            · simp [e]
          rw [e] at h
          exact h
        have hG4 : w1.grownBy (wo.setCell ⟨g, k, none⟩ (.bool false)) (some g) := gb_trans HG.out (gb_set _ _ _ _)
        clear hf
        go_upto_region 7 with fail
        refine wp_world (fun w' => UseAt w' g r.m (fun j => !f j) ∧ w1.grownBy w' (some g)) ⟨hU4, hG4⟩ ?_
        rintro w4 ⟨hu4, hg4⟩
        have HU4 := Lib.hid hu4
        have HG4 := Lib.hid hg4
        have hgs4 := hg4.size
        have HR4 := Lib.hid (H0.out.later ((gb_below (B := g) HG1.out (by omega) (Nat.le_refl _)).trans (gb_below (B := g) hg4 (by omega) (Nat.le_refl _))))
        obtain ⟨a0, a1, a2⟩ := HA1.out.same (hg4.block _ (by omega) (fun e => by injection e with e; omega))
        clear hu4 hg4 hU4 hG4 c0 f0 HU HG hok
        go_wp2_with fail
        refine (IH.out (q : Int) rfl (by omega) f (k + 1) (by omega) (fun j hj => by rw [HF.out]; dsimp only; rw [if_neg (by omega)]; exact HOUT.out j (by omega)) _ HR4.out HU4.out).mono ?_
        rintro e w5 ⟨v5, rfl, ho5, hn5, hu5, hg5⟩
        have HU5 := Lib.hid hu5
        have HG5 := Lib.hid (gb_trans HG4.out hg5)
        have hgs5 := hg5.size
        obtain ⟨res, hres⟩ : ∃ res, res = r.lv q f (k + 1) := ⟨_, rfl⟩
        rw [← hres] at ho5 hn5 ⊢
        have HRES := Lib.hid hres
        have HO5 := Lib.hid ho5
        have HN5 := Lib.hid hn5
        obtain ⟨c0, f0⟩ := hu5.c k hlt
        have hU6 : UseAt (w5.setCell ⟨g, k, none⟩ (.bool true)) g r.m (fun j => !out j) := by
          have h := hu5.set hlt true
          have e : (fun j => if j = k then true else !f j) = (fun j : Nat => !out j) := by
            funext j
            rw [HF.out]
            by_cases e : j = k
            · subst e; simp [HOUT.out j hik]
            · simp [e]
          rw [e] at h
          exact h
        have hG6 : w1.grownBy (w5.setCell ⟨g, k, none⟩ (.bool true)) (some g) := gb_trans HG5.out (gb_set _ _ _ _)
        have hO6 : (w5.setCell ⟨g, k, none⟩ (.bool true)).ownsRow w4.heap.size 3 1 v5 (res.getD []).length (natV (res.getD [])) := owns_sm ho5 (fun b h1 h2 => set_heap _ (by dsimp only; omega))
        have hs6 : (w5.setCell ⟨g, k, none⟩ (.bool true)).heap.size = w5.heap.size := by simp [World.setCell]
        clear ho5 hn5 hu5 hg5 hres HU4 HG4 HR4 HO5 a0 a1 a2
        go_upto_region 9 with fail
        refine wp_world (fun w' => UseAt w' g r.m (fun j => !out j) ∧ w1.grownBy w' (some g) ∧ w'.ownsRow w4.heap.size 3 1 v5 (res.getD []).length (natV (res.getD [])) ∧ w'.heap.size = w5.heap.size) ⟨hU6, hG6, hO6, hs6⟩ ?_
        rintro w6 ⟨hu6, hg6, ho6, hs6⟩
        have HU6 := Lib.hid hu6
        have HG6 := Lib.hid hg6
        have HO6 := Lib.hid ho6
        have hgs6 := hg6.size
        have HS6 := Lib.hid hs6
        clear hu6 hg6 ho6 hU6 hG6 hO6 c0 f0 HU5 HG5 hs6
        have hd : r.m - k = (r.m - (k + 1)) + 1 := by omega
        cases res with
        | none =>
          have HL2 : Hid (r.lv (q + 1) out i = lvF r.m (r.lv q) out (r.m - (k + 1)) (k + 1)) := Lib.hid (by
            rw [HL.out, hd]
            exact lvF_none (by rw [← HF.out]; exact HRES.out.symm))
          clear hd
          go_wp2_with fail
          refine ⟨?_, ?measure⟩
          case measure => simp [intOf]; omega
          exact ⟨k + 1, by omega, by omega, by go_num, HL2, HU6, HG6⟩
        | some l =>
          have HL2 : Hid (r.lv (q + 1) out i = some (k :: l)) := Lib.hid (by
            rw [HL.out, hd]
            exact lvF_some (by rw [← HF.out]; exact HRES.out.symm))
          clear hd
          have hll : l.length ≤ 1000 := by
            have h := Rw.lv_spec HOK.out q f (k + 1) (by omega)
            rw [← HRES.out] at h
            have := h.2.1
            omega
          cases l with
          | nil =>
            have hv : v5 = .slice none 0 0 := HN5.out rfl
            subst hv
            clear HO6
            go_upto_region 5 with (at_builtin; refine wpList_append_noneI rfl (.tmp 45) (.tmp 46) 31 rfl w1.heap.size 3 i0 1 ints_under hi0 (.slice (some ⟨w6.heap.size, 0, none⟩) 1 1) 1 [.int .i64 (k : Int)] rfl (World.ownsRow_lit w6 #[.int .i64 (k : Int)] 1 (by omega) (by unfold maxLen; omega) rfl) rfl ?_)
            go_wp2_with fail
            go_ret2
            rw [HL2.out]
            have hown : (w6.alloc (.cells #[.int .i64 (k : Int)] 3)).ownsRow W.heap.size 3 1 (.slice (some ⟨w6.heap.size, 0, none⟩) 1 1) 1 (natV [k]) := World.ownsRow_lit w6 #[.int .i64 (k : Int)] 1 (by omega) (by unfold maxLen; omega) rfl
            exact ⟨_, rfl, hown, fun h => by simp at h, HU6.out.later (by repeat (first | (with_reducible first | exact Below.refl _ _ | assumption | refine Below.drew ?_) | ((with_reducible first | refine Lc ?_ ?_ _ | refine Ls ?_ ?_ _ | refine Lv (by assumption) ?_ ?_); · first | exact Nat.le_refl _ | omega | (dsimp only; omega) | (simp only [World.size_alloc, World.size_drew, World.heap_drewN]; omega) | (simp; omega)))), gb_new (gb_trans HG1.out HG6.out) _⟩
          | cons a l =>
            obtain ⟨n5, hn5⟩ : ∃ n, n = (a :: l).length := ⟨_, rfl⟩
            have hn5p : 0 < n5 := by rw [hn5]; simp
            have hnl : (natV (a :: l)).length = n5 := by rw [natV_num, numCells_len, hn5]
            obtain ⟨xs, hxs⟩ : ∃ x, x = natV (a :: l) := ⟨_, rfl⟩
            have hone : ∀ u ∈ xs, u.oneCell' = true := by rw [hxs, natV_num]; exact numCells_one _ _
            have ho6 : w6.ownsRow w4.heap.size 3 1 v5 n5 xs := by rw [hn5, hxs]; exact HO6.out
            rw [← hxs] at hnl
            have hll5 : n5 ≤ 1000 := by rw [hn5]; exact hll
            have HXS := Lib.hid hxs
            have HLN := Lib.hid hn5
            clear hxs hn5 HO6 hll
            have hcl := fun b hb => World.ownsRow.cells (g := b) ho6 hb
            rcases ho6.2 with ⟨-, h00⟩ | ⟨b5, cap5, cur5, e0, hb5, -⟩
            · omega
            subst e0
            have hcl := hcl b5 rfl
            have hv6 := ho6.lt
            have HCL := Lib.hid hcl
            clear ho6 hcl
            go_upto_region 5 with (at_builtin; refine wpList_append_lies _ rfl (.tmp 45) (.tmp 46) 31 rfl w1.heap.size 3 i0 (.int .i64 0) 1 8 ints_under hi0 hz0 hz1 hz2 rfl (by decide) (.slice (some ⟨w6.heap.size, 0, none⟩) 1 1) 1 [.int .i64 (k : Int)] rfl (World.ownsRow_lit w6 #[.int .i64 (k : Int)] 1 (by omega) (by unfold maxLen; omega) rfl) ⟨b5, 0, none⟩ n5 cap5 xs rfl (by rw [hnl, Nat.mul_one]) (fun j u hj => Lib.cell?_alloc_some _ (HCL.out j u hj)) hone hn5p (by unfold maxLen; omega) (by omega) (by simp; omega) (w6.heap.size + 1) (by simp) ?_; intro g8 cap w8 hown8 hgr8 hat8 hlt8)
            have hk8 : ∀ b, b < w6.heap.size → w8.heap[b]? = w6.heap[b]? := fun b hb => (hgr8.block b (by simp; omega) (fun e => by have e : some b = some w6.heap.size := e; injection e with e; omega)).trans (Below.heap_alloc _ _ _ hb)
            have hz8 := hgr8.size
            simp only [World.size_alloc] at hz8
            have HU8 := Lib.hid (HU6.out.same (by have := HU6.out.lt; omega) (hk8 _ HU6.out.lt))
            have HG8 := Lib.hid (gb_own (gb_new (gb_trans HG1.out HG6.out) _) hgr8 (fun b hb => by have hb : some w6.heap.size = some b := hb; injection hb with hb; omega))
            have HO8 := Lib.hid hown8
            clear hown8 hgr8 hat8 hlt8 hk8
            go_wp2_with fail
            go_ret2
            rw [HL2.out]
            have hown : w8.ownsRow W.heap.size 3 1 (.slice (some ⟨g8, 0, none⟩) (1 + n5) cap) (k :: a :: l).length (natV (k :: a :: l)) := by
              rw [show (k :: a :: l).length = 1 + n5 by rw [HLN.out, List.length_cons]; omega, natV_cons k, ← HXS.out]
              exact owns_low (show W.heap.size ≤ w1.heap.size by omega) HO8.out
            exact ⟨_, rfl, hown, fun h => by simp at h, HU8.out, HG8.out⟩
      · obtain rfl : k = r.m := by omega
        have hge : ¬ (r.m : Int) < (r.m : Int) := by omega
        have HL2 : Hid (r.lv (q + 1) out i = none) := Lib.hid (by rw [HL.out, Nat.sub_self]; rfl)
        go_wp2_with fail
        go_ret2
        exact ⟨_, by rw [HL2.out]; rfl, by rw [HL2.out]; exact World.ownsRow_nil _ _ _ _, fun _ => rfl, HU.out, gb_trans HG1.out HG.out⟩
end Go.Proofs.YtnnikeolgknfoaaGreat

set_option linter.unusedSimpArgs false
set_option linter.unusedVariables false
namespace Go.Proofs.YtnnikeolgknfoaaGreat
open Go.RowKit Go.Shelf

set_option maxRecDepth 100000 in
set_option maxHeartbeats 8000000 in
theorem rFewest_any (r : Rw) (bA dA vA : Option Addr) (bc dc vc : Nat) (W : World) (hrow : RwRow W W.heap.size r bA bc dA dc vA vc) :
    Calls Tryz.prog 19 #[rwV bA r.n bc dA r.d dc vA r.m vc] W (NatPost r.fewL r.check W) := by
  have H0 := Lib.hid hrow
  have hm1 := hrow.m1
  clear hrow
  go_enter Tryz.func19, Tryz.ntmps19
  go_upto_region 1 with fail
  refine wp_world (fun w' => RwAt w' W.heap.size r bA bc dA dc vA vc ∧ Below W.heap.size W w' ∧ W.heap.size + 1 ≤ w'.heap.size) ⟨⟨(by (repeat' refine And.intro ?_ ?_) <;> (repeat (first | with_reducible assumption | (simp; done) | (with_reducible first | refine Kd ?_ | refine Kn ?_ | refine Kb (by assumption) ?_) | ((with_reducible first | refine Kw ?_ ?_ | refine Fw ?_) <;> first | with_reducible rfl | (simp; done)) | (with_reducible first | refine Ka _ ?_ | refine Ks _ (by first | exact Nat.le_refl _ | omega | (simp; done) | (simp; omega)) ?_ | refine Fd ?_ | refine Fn ?_ | refine Fb (by assumption) (by first | exact Nat.le_refl _ | omega | (simp; done) | (simp; omega)) ?_ | refine Fa _ (by first | exact Nat.le_refl _ | omega | (simp; done) | (simp; omega)) ?_ | refine Fs _ ?_)))), (by (repeat' refine And.intro ?_ ?_) <;> (repeat (first | with_reducible assumption | (simp; done) | (with_reducible first | refine Kd ?_ | refine Kn ?_ | refine Kb (by assumption) ?_) | ((with_reducible first | refine Kw ?_ ?_ | refine Fw ?_) <;> first | with_reducible rfl | (simp; done)) | (with_reducible first | refine Ka _ ?_ | refine Ks _ (by first | exact Nat.le_refl _ | omega | (simp; done) | (simp; omega)) ?_ | refine Fd ?_ | refine Fn ?_ | refine Fb (by assumption) (by first | exact Nat.le_refl _ | omega | (simp; done) | (simp; omega)) ?_ | refine Fa _ (by first | exact Nat.le_refl _ | omega | (simp; done) | (simp; omega)) ?_ | refine Fs _ ?_)))), (by (repeat' refine And.intro ?_ ?_) <;> (repeat (first | with_reducible assumption | (simp; done) | (with_reducible first | refine Kd ?_ | refine Kn ?_ | refine Kb (by assumption) ?_) | ((with_reducible first | refine Kw ?_ ?_ | refine Fw ?_) <;> first | with_reducible rfl | (simp; done)) | (with_reducible first | refine Ka _ ?_ | refine Ks _ (by first | exact Nat.le_refl _ | omega | (simp; done) | (simp; omega)) ?_ | refine Fd ?_ | refine Fn ?_ | refine Fb (by assumption) (by first | exact Nat.le_refl _ | omega | (simp; done) | (simp; omega)) ?_ | refine Fa _ (by first | exact Nat.le_refl _ | omega | (simp; done) | (simp; omega)) ?_ | refine Fs _ ?_))))⟩, (by repeat (first | (with_reducible first | exact Below.refl _ _ | assumption | refine Below.drew ?_) | ((with_reducible first | refine Lc ?_ ?_ _ | refine Ls ?_ ?_ _ | refine Lv (by assumption) ?_ ?_); · first | exact Nat.le_refl _ | omega | (dsimp only; omega) | (simp only [World.size_alloc, World.size_drew, World.heap_drewN]; omega) | (simp; omega)))), by simp⟩ ?_
  rintro w0 ⟨ha0, hb0, hs0⟩
  have HA0 := Lib.hid ha0
  have HB0 := Lib.hid hb0
  obtain ⟨a0, a1, a2⟩ := ha0
  clear hb0
  go_wp2_with fail
  refine (rcheck_any r bA dA vA bc dc vc _ (H0.out.onW HB0.out)).mono ?_
  rintro e w2 ⟨rfl, hb2⟩
  have HB2 := Lib.hid (HB0.out.trans (hb2.mono HB0.out.size))
  have HA2 := Lib.hid (HA0.out.later hb2)
  have hs2 : W.heap.size + 1 ≤ w2.heap.size := Nat.le_trans hs0 hb2.size
  clear hb2 HB0 HA0 a0 a1 a2
  by_cases h0 : r.check = 0
  · have HE := Lib.hid h0
    have HOK := Lib.hid (Rw.check_ok.1 h0)
    rw [h0]
    obtain ⟨a0, a1, a2⟩ := HA2.out
    have hmk := mkBl r.m hm1 w2
    clear h0
    go_upto_region 5 with fail
    refine wp_world (fun w' => UseAt w' w2.heap.size r.m (fun _ => false) ∧ Below w2.heap.size w2 w' ∧ w2.heap.size + 1 ≤ w'.heap.size) ⟨UseAt.made _ _, (by repeat (first | (with_reducible first | exact Below.refl _ _ | assumption | refine Below.drew ?_) | ((with_reducible first | refine Lc ?_ ?_ _ | refine Ls ?_ ?_ _ | refine Lv (by assumption) ?_ ?_); · first | exact Nat.le_refl _ | omega | (dsimp only; omega) | (simp only [World.size_alloc, World.size_drew, World.heap_drewN]; omega) | (simp; omega)))), by simp⟩ ?_
    rintro w3 ⟨hu3, hb3, hs3⟩
    have HU3 := Lib.hid hu3
    have HB3 := Lib.hid hb3
    clear hu3 hb3 hmk a0 a1 a2
    go_wp2_with fail
    go_loopw [6] (fun i wr => ∃ k : Nat, k ≤ r.m ∧ i = .int .i64 k ∧ Hid (UseAt wr w2.heap.size r.m (fun j => decide (j < k))) ∧ Hid (Below w2.heap.size w2 wr) ∧ w2.heap.size + 1 ≤ wr.heap.size) (fun i _ => r.m - (intOf i).toNat)
    case atStart => exact ⟨0, Nat.zero_le _, rfl, Lib.hid (by rw [show (fun j => decide (j < 0)) = (fun _ : Nat => false) from funext fun j => by simp]; exact HU3.out), HB3, hs3⟩
    case round =>
      clear HU3 HB3
      obtain ⟨k, hk, rfl, HU, HB, hsz⟩ := hrel
      obtain ⟨wo, rfl⟩ : ∃ wo, wo = wr := ⟨_, rfl⟩
      by_cases hlt : k < r.m
      · have hkn : (k : Int) < (r.m : Int) := by omega
        have hk0 : (0 : Int) ≤ (k : Int) := by omega
        have ek : IntKind.i64.wrap ((k : Int) + 1) = (k : Int) + 1 := IntWalk.i64_in _ (by omega)
        obtain ⟨c0, f0⟩ := HU.out.c k hlt
        have HU4 : Hid (UseAt (wo.setCell ⟨w2.heap.size, k, none⟩ (.bool true)) w2.heap.size r.m (fun j => decide (j < k + 1))) := Lib.hid (by
          have h := HU.out.set hlt true
          have e : (fun j => if j = k then true else decide (j < k)) = (fun j : Nat => decide (j < k + 1)) := by
            funext j
            by_cases e : j = k
            · simp [e]
            · rw [if_neg e]
              by_cases h : j < k
              · simp [h]; omega
              · simp [h]; omega
          rw [e] at h
          exact h)
        have HB4 : Hid (Below w2.heap.size w2 (wo.setCell ⟨w2.heap.size, k, none⟩ (.bool true))) := Lib.hid (HB.out.setCell (by dsimp only; omega) _)
        go_wp2_with fail
        refine ⟨?_, ?measure⟩
        case measure => simp [intOf]; omega
        exact ⟨k + 1, by omega, by go_num, HU4, HB4, by simp only [World.setCell, Array.size_modify]; omega⟩
      · obtain rfl : k = r.m := by omega
        have hge : ¬ (r.m : Int) < (r.m : Int) := by omega
        obtain ⟨w3, rfl⟩ : ∃ w3, w3 = wo := ⟨_, rfl⟩
        have HU3 : Hid (UseAt w3 w2.heap.size r.m (fun _ => true)) := Lib.hid ⟨HU.out.lt, fun q hq => ⟨by rw [(HU.out.c q hq).1, decide_eq_true hq], (HU.out.c q hq).2⟩⟩
        have HB3 := Lib.hid HB.out
        have hs3 : w2.heap.size + 1 ≤ w3.heap.size := hsz
        clear HU HB
        have hlen : r.fewL.length ≤ r.m := by unfold Rw.fewL; exact Rw.fwN_len r _
        go_wp2_with fail
        go_loopw [7] (fun x wr => ∃ k : Nat, k ≤ r.fewL.length ∧ x = .int .i64 k ∧ Hid (UseAt wr w2.heap.size r.m (fun _ => true)) ∧ Hid (Below w2.heap.size w2 wr) ∧ w2.heap.size + 1 ≤ wr.heap.size) (fun x _ => r.fewL.length + 1 - (intOf x).toNat)
        case atStart => exact ⟨0, Nat.zero_le _, rfl, HU3, HB3, hs3⟩
        case round =>
          clear HU3 HB3
          obtain ⟨k, hk, rfl, HU, HB, hsz⟩ := hrel
          obtain ⟨wo, rfl⟩ : ∃ wo, wo = wr := ⟨_, rfl⟩
          have ek : IntKind.i64.wrap ((k : Int) + 1) = (k : Int) + 1 := IntWalk.i64_in _ (by omega)
          obtain ⟨a0, a1, a2⟩ := HA2.out.later HB.out
          have HR := Lib.hid ((H0.out.later (HB2.out.trans (HB.out.mono (by omega)))).up (show W.heap.size ≤ w2.heap.size by omega) (show w2.heap.size ≤ wo.heap.size by omega))
          go_wp2_with fail
          refine (leave_any r HOK.out w2.heap.size bA dA vA bc dc vc r.m k (k : Int) rfl (by omega) (fun _ => false) 0 (Nat.zero_le _) (fun _ _ => rfl) _ HR.out HU.out).mono ?_
          rintro e w5 ⟨v5, rfl, ho5, hn5, hu5, hg5⟩
          have HU5 : Hid (UseAt w5 w2.heap.size r.m (fun _ => true)) := Lib.hid hu5
          have HB5 := Lib.hid (HB.out.trans (gb_below (B := w2.heap.size) hg5 (by omega) (Nat.le_refl _)))
          have hs5 := hg5.size
          have hlv := Rw.few_lv HOK.out
          clear hn5 hu5 hg5 a0 a1 a2 HU
          by_cases hlt : k < r.fewL.length
          · rw [hlv.1 k hlt]
            clear hlv ho5
            go_wp2_with fail
            refine ⟨?_, ?measure⟩
            case measure => simp [intOf]; omega
            exact ⟨k + 1, by omega, by go_num, HU5, HB5, by omega⟩
          · obtain rfl : k = r.fewL.length := by omega
            rw [hlv.2] at ho5 ⊢
            have HO5 : Hid (w5.ownsRow wo.heap.size 3 1 v5 r.fewL.length (natV r.fewL)) := Lib.hid ho5
            clear hlv ho5
            go_wp2_with fail
            go_ret2
            exact .inl ⟨HE.out, _, rfl, owns_low (by omega) HO5.out, HB2.out.trans (HB5.out.mono (by omega))⟩
  · have hne : (r.check != 0) = true := by simpa using h0
    have HE0 := Lib.hid h0
    clear h0
    go_wp2_with fail
    go_ret2
    exact .inr ⟨HE0.out, rfl, HB2.out⟩
end Go.Proofs.YtnnikeolgknfoaaGreat
