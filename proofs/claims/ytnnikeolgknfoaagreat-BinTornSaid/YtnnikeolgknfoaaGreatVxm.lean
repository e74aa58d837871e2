/- slices.Delete of one number. -/
import Derived.Test.YtnnikeolgknfoaaGreatVxo
import Derived.Test.YtnnikeolgknfoaaGreatCq
import Derived.Laws.MakeOwn
import Derived.Laws.CopyOwn
import Derived.Test.YtnnikeolgknfoaaGreatC5
import Derived.Test.YtnnikeolgknfoaaGreatBs
import Derived.Deep.RegionLaw
import Derived.Lib.SliceRun
import Derived.Test.YtnnikeolgknfoaaGreatE4
set_option linter.unusedSimpArgs false
set_option linter.unusedVariables false
namespace Go.Proofs.YtnnikeolgknfoaaGreat

theorem Rw.wo_torn {r : Rw} (hr : r.ok) (out : Nat → Bool) : (r.wo out).torn = true ↔ ¬ ∃ X, r.fitsO out X := by
  rw [Rw.torn_iffT (Rw.wo_ok hr out)]
  exact not_congr (exists_congr fun X => Rw.wo_fits hr out X)
/-- what Clash's loop keeps -/
structure ClSpec (r : Rw) (k : Nat) (L : Nat → Bool) (O : List Nat) : Prop where
  lt : ∀ j, L j = true → j < k
  mem : ∀ j, j ∈ O ↔ j < k ∧ L j = false
  no : ¬ ∃ X, r.fitsO L X
  one : ∀ j, j ∈ O → ∃ X, r.fitsO (fun i => if i = j then true else L i) X
theorem Rw.clN_spec {r : Rw} (hr : r.ok) (h : ¬ ∃ X, r.fitsO (fun _ => false) X) : ∀ k, ClSpec r k (r.clN k).1 (r.clN k).2
  | 0 => ⟨fun j hj => (by cases hj), fun j => ⟨fun hj => (by cases hj), fun hj => absurd hj.1 (by omega)⟩, h, fun j hj => (by cases hj)⟩
  | k + 1 => by
    have ih := Rw.clN_spec hr h k
    unfold Rw.clN
    split
    · rename_i ht
      have hno := (Rw.wo_torn hr _).1 ht
      refine ⟨fun j hj => ?_, fun j => ?_, hno, fun j hj => ?_⟩
      · dsimp only at hj
        split at hj
        · omega
        · have := ih.lt j hj; omega
      · dsimp only
        rw [ih.mem j]
        split
        · rename_i e
          simp
          omega
        · constructor
          · rintro ⟨a, b⟩; exact ⟨by omega, b⟩
          · rintro ⟨a, b⟩; exact ⟨by omega, b⟩
      · obtain ⟨X, hX⟩ := ih.one j hj
        exact ⟨X, Rw.fitsO_mono hX (fun i _ hi => by
          dsimp only at hi ⊢
          split
          · rfl
          · split
            · rfl
            · rename_i h1 h2
              rw [if_neg h1] at hi
              exact hi)⟩
    · rename_i ht
      have hl : (fun j => if j = k then false else if j = k then true else (r.clN k).1 j) = (r.clN k).1 := by
        funext j
        by_cases e : j = k
        · rw [if_pos e]
          cases h1 : (r.clN k).1 j with
          | false => rfl
          | true => have := ih.lt j h1; omega
        · rw [if_neg e, if_neg e]
      dsimp only
      rw [hl]
      refine ⟨fun j hj => by have := ih.lt j hj; omega, fun j => ?_, ih.no, fun j hj => ?_⟩
      · rw [List.mem_append, List.mem_singleton, ih.mem j]
        constructor
        · rintro (⟨a, b⟩ | rfl)
          · exact ⟨by omega, b⟩
          · refine ⟨by omega, ?_⟩
            cases h1 : (r.clN j).1 j with
            | false => rfl
            | true => have := ih.lt j h1; omega
        · rintro ⟨a, b⟩
          by_cases e : j = k
          · exact .inr e
          · exact .inl ⟨by omega, b⟩
      · rcases List.mem_append.1 hj with hj | hj
        · exact ih.one j hj
        · rw [List.mem_singleton.1 hj]
          exact Classical.not_not.1 (fun hn => ht ((Rw.wo_torn hr _).2 hn))
end Go.Proofs.YtnnikeolgknfoaaGreat

set_option linter.unusedSimpArgs false
set_option linter.unusedVariables false
namespace Go.Proofs.YtnnikeolgknfoaaGreat

theorem Rw.clN_nodup (r : Rw) : ∀ k, (r.clN k).2.Nodup ∧ ∀ j, j ∈ (r.clN k).2 → j < k
  | 0 => ⟨List.nodup_nil, fun j hj => by cases hj⟩
  | k + 1 => by
    have ih := Rw.clN_nodup r k
    unfold Rw.clN
    split
    · exact ⟨ih.1, fun j hj => Nat.lt_succ_of_lt (ih.2 j hj)⟩
    · refine ⟨List.nodup_append.2 ⟨ih.1, by simp, fun a ha b hb => ?_⟩, fun j hj => ?_⟩
      · have := ih.2 a ha
        rw [List.mem_singleton.1 hb]
        omega
      · rcases List.mem_append.1 hj with hj | hj
        · exact Nat.lt_succ_of_lt (ih.2 j hj)
        · rw [List.mem_singleton.1 hj]
          exact Nat.lt_succ_self _
theorem pickL_memA (s : Nat) : ∀ (k j : Nat), j ∈ pickL s k ↔ j < k ∧ s.testBit j = true
  | 0, j => ⟨fun h => (by cases h), fun h => absurd h.1 (by omega)⟩
  | k + 1, j => by
    unfold pickL
    split
    · rename_i h
      rw [List.mem_append, List.mem_singleton, pickL_memA s k j]
      constructor
      · rintro (⟨a, b⟩ | rfl)
        · exact ⟨by omega, b⟩
        · exact ⟨by omega, h⟩
      · rintro ⟨a, b⟩
        by_cases e : j = k
        · exact .inr e
        · exact .inl ⟨by omega, b⟩
    · rename_i h
      rw [pickL_memA s k j]
      constructor
      · rintro ⟨a, b⟩; exact ⟨by omega, b⟩
      · rintro ⟨a, b⟩
        refine ⟨?_, b⟩
        rcases Nat.lt_or_ge j k with h1 | h1
        · exact h1
        · have : j = k := by omega
          subst this
          exact absurd b h
theorem pickL_mem {s k j : Nat} : j ∈ pickL s k ↔ j < k ∧ s.testBit j = true := pickL_memA s k j
theorem pickL_nodup (s : Nat) : ∀ k, (pickL s k).Nodup
  | 0 => List.nodup_nil
  | k + 1 => by
    have ih := pickL_nodup s k
    unfold pickL
    split
    · refine List.nodup_append.2 ⟨ih, by simp, fun a ha b hb => ?_⟩
      have := (pickL_mem.1 ha).1
      rw [List.mem_singleton.1 hb]
      omega
    · exact ih
/-- one bit less is one member less -/
theorem pickL_less {s t j : Nat} (hj : s.testBit j = true) (ht : ∀ i, t.testBit i = (s.testBit i && decide (i ≠ j))) : ∀ k, (pickL t k).length + (if j < k then 1 else 0) = (pickL s k).length
  | 0 => by simp [pickL]
  | k + 1 => by
    have ih := pickL_less hj ht k
    have hk := ht k
    unfold pickL
    by_cases e : k = j
    · subst e
      rw [if_neg (by omega)] at ih
      rw [if_neg (by rw [hk]; simp), if_pos hj, if_pos (by omega)]
      simp
      omega
    · have hif : (if j < k + 1 then 1 else 0) = (if j < k then 1 else 0) := by
        by_cases h1 : j < k
        · rw [if_pos h1, if_pos (by omega)]
        · rw [if_neg h1, if_neg (by omega)]
      rw [hif]
      cases hs : s.testBit k with
      | true =>
        have ht1 : t.testBit k = true := by rw [hk, hs]; simp [e]
        rw [ht1]
        simp only [if_true, List.length_append, List.length_singleton]
        omega
      | false =>
        have ht1 : t.testBit k = false := by rw [hk, hs]; rfl
        rw [ht1]
        simpa using ih
/-- what Fewest's loop keeps -/
def FwSpec (r : Rw) (s : Nat) : Option (List Nat) → Prop
  | none => ∀ t, t < s → ¬ ∃ X, r.fitsO (pickF t r.m) X
  | some o => (∃ t, t < s ∧ o = pickL t r.m ∧ ∃ X, r.fitsO (pickF t r.m) X) ∧ ∀ t, t < s → (∃ X, r.fitsO (pickF t r.m) X) → o.length ≤ (pickL t r.m).length
theorem worse_le {l o : List Nat} (h : worse l o = true) : o.length ≤ l.length := by
  unfold worse at h
  rcases Bool.or_eq_true_iff.1 h with h | h
  · have := of_decide_eq_true h; omega
  · have := of_decide_eq_true (Bool.and_eq_true_iff.1 h).1; omega
theorem worse_no {l o : List Nat} (h : worse l o ≠ true) : l.length ≤ o.length := by
  rcases Nat.lt_or_ge o.length l.length with h1 | h1
  · exact absurd (show worse l o = true by unfold worse; rw [decide_eq_true h1]; rfl) h
  · exact h1
theorem Rw.fwN_spec {r : Rw} (hr : r.ok) : ∀ s, FwSpec r s (r.fwN s)
  | 0 => fun t ht => absurd ht (by omega)
  | s + 1 => by
    have ih := Rw.fwN_spec hr s
    cases hq : r.fwN s with
    | none =>
      rw [hq] at ih
      rw [Rw.fwN_none hq]
      split
      · rename_i ht
        have hno := (Rw.wo_torn hr _).1 ht
        intro t h1
        rcases Nat.lt_or_ge t s with h2 | h2
        · exact ih t h2
        · have : t = s := by omega
          subst this
          exact hno
      · rename_i ht
        have hX : ∃ X, r.fitsO (pickF s r.m) X := Classical.not_not.1 (fun hn => ht ((Rw.wo_torn hr _).2 hn))
        refine ⟨⟨s, by omega, rfl, hX⟩, fun t h1 hT => ?_⟩
        rcases Nat.lt_or_ge t s with h2 | h2
        · exact absurd hT (ih t h2)
        · have : t = s := by omega
          subst this
          exact Nat.le_refl _
    | some o =>
      rw [hq] at ih
      obtain ⟨⟨t0, h0, e0, hX0⟩, hm⟩ := ih
      rw [Rw.fwN_some hq]
      by_cases hw : worse (pickL s r.m) o = true
      · rw [if_pos hw]
        have hl := worse_le hw
        refine ⟨⟨t0, by omega, e0, hX0⟩, fun t h1 hT => ?_⟩
        rcases Nat.lt_or_ge t s with h2 | h2
        · exact hm t h2 hT
        · have : t = s := by omega
          subst this
          exact hl
      · rw [if_neg hw]
        have hl := worse_no hw
        by_cases ht : (r.wo (pickF s r.m)).torn = true
        · rw [if_pos ht]
          have hno := (Rw.wo_torn hr _).1 ht
          refine ⟨⟨t0, by omega, e0, hX0⟩, fun t h1 hT => ?_⟩
          rcases Nat.lt_or_ge t s with h2 | h2
          · exact hm t h2 hT
          · have : t = s := by omega
            subst this
            exact absurd hT hno
        · rw [if_neg ht]
          have hX : ∃ X, r.fitsO (pickF s r.m) X := Classical.not_not.1 (fun hn => ht ((Rw.wo_torn hr _).2 hn))
          refine ⟨⟨s, by omega, rfl, hX⟩, fun t h1 hT => ?_⟩
          rcases Nat.lt_or_ge t s with h2 | h2
          · exact Nat.le_trans hl (hm t h2 hT)
          · have : t = s := by omega
            subst this
            exact Nat.le_refl _
/-- without all weighings bins fit -/
theorem Rw.fitsO_all {r : Rw} (hr : r.ok) {o : Nat → Bool} (h : ∀ i, i < r.m → o i = true) : r.fitsO o (fun i => (r.sp i).a) :=
  ⟨fun i hi => ⟨Int.le_refl _, (Rw.sp_bd hr hi).2.1⟩, fun i hi ho => by rw [h i hi] at ho; cases ho⟩
theorem Rw.fewL_spec {r : Rw} (hr : r.ok) : ∃ t, t < 2 ^ r.m ∧ r.fewL = pickL t r.m ∧ (∃ X, r.fitsO (pickF t r.m) X) ∧ ∀ t', t' < 2 ^ r.m → (∃ X, r.fitsO (pickF t' r.m) X) → r.fewL.length ≤ (pickL t' r.m).length := by
  have h := Rw.fwN_spec hr (2 ^ r.m)
  unfold Rw.fewL
  have hp := Nat.two_pow_pos r.m
  cases hq : r.fwN (2 ^ r.m) with
  | none =>
    rw [hq] at h
    refine absurd ⟨_, Rw.fitsO_all hr (o := pickF (2 ^ r.m - 1) r.m) (fun i hi => ?_)⟩ (h (2 ^ r.m - 1) (by omega))
    unfold pickF
    rw [Nat.testBit_two_pow_sub_one]
    simp [hi]
  | some o =>
    rw [hq] at h
    obtain ⟨⟨t, h1, h2, h3⟩, h4⟩ := h
    exact ⟨t, h1, h2, h3, h4⟩
theorem pickF_iff {t m i : Nat} : pickF t m i = true ↔ i ∈ pickL t m := by
  rw [pickL_mem]
  unfold pickF
  simp
theorem mem_erase_idx {l : List Nat} (hn : l.Nodup) {k i : Nat} (hk : k < l.length) (h : i ∈ l.eraseIdx k) : i ∈ l ∧ i ≠ l[k] := by
  rw [List.mem_eraseIdx_iff_getElem] at h
  obtain ⟨q, hq, hqk, e⟩ := h
  refine ⟨e ▸ List.getElem_mem _, fun e2 => hqk ?_⟩
  rw [← e] at e2
  rcases Nat.lt_trichotomy q k with h1 | h1 | h1
  · exact absurd e2 (List.pairwise_iff_getElem.1 hn q k hq hk h1)
  · exact h1
  · exact absurd e2.symm (List.pairwise_iff_getElem.1 hn k q hk hq h1)

/-! ### what the law asks -/
/-- a row with the weighings of a list, or without them -/
def outL (l : List Nat) (with_ : Bool) (i : Nat) : Bool := decide (i ∈ l) != with_
theorem Rw.torn_fits {r : Rw} (hr : r.ok) {X : Nat → Int} : r.fits X ↔ r.fitsO (fun _ => false) X :=
  ⟨fun h => ⟨fun i hi => Rw.fits_sp hr h hi, fun i hi _ => Rw.fits_wgT hr h hi⟩, fun h => Rw.fits_of h.1 (fun i hi => h.2 i hi rfl) (fun i hi => Int.le_trans (hr.v i hi).f (hr.v i hi).ft)⟩
theorem Rw.clash_all {r : Rw} (hr : r.ok) (h : ¬ ∃ X, r.fits X) : ¬ ∃ X, r.fitsO (outL r.clashL true) X := by
  have hs := Rw.clN_spec hr (fun ⟨X, hX⟩ => h ⟨X, (Rw.torn_fits hr).2 hX⟩) r.m
  rintro ⟨X, hX⟩
  refine hs.no ⟨X, Rw.fitsO_mono hX (fun i hi ho => ?_)⟩
  unfold outL at ho
  cases e : (r.clN r.m).1 i with
  | true => rfl
  | false =>
    have : i ∈ r.clashL := (hs.mem i).2 ⟨hi, e⟩
    rw [decide_eq_true this] at ho
    cases ho
theorem Rw.clash_one {r : Rw} (hr : r.ok) (h : ¬ ∃ X, r.fits X) {k : Nat} (hk : k < r.clashL.length) : ∃ X, r.fitsO (outL (r.clashL.eraseIdx k) true) X := by
  have hs := Rw.clN_spec hr (fun ⟨X, hX⟩ => h ⟨X, (Rw.torn_fits hr).2 hX⟩) r.m
  obtain ⟨X, hX⟩ := hs.one r.clashL[k] (List.getElem_mem hk)
  refine ⟨X, Rw.fitsO_mono hX (fun i hi ho => ?_)⟩
  unfold outL
  cases e : decide (i ∈ r.clashL.eraseIdx k) with
  | false => rfl
  | true =>
    obtain ⟨h1, h2⟩ := mem_erase_idx (r.clN_nodup r.m).1 hk (of_decide_eq_true e)
    have h3 := (hs.mem i).1 h1
    rw [if_neg (show ¬ i = r.clashL[k] from h2), h3.2] at ho
    cases ho
theorem Rw.few_all {r : Rw} (hr : r.ok) : ∃ X, r.fitsO (outL r.fewL false) X := by
  obtain ⟨t, h1, h2, ⟨X, hX⟩, h4⟩ := Rw.fewL_spec hr
  refine ⟨X, Rw.fitsO_mono hX (fun i hi ho => ?_)⟩
  unfold outL
  rw [h2, decide_eq_true (pickF_iff.1 ho)]
  rfl
theorem Rw.few_one {r : Rw} (hr : r.ok) {k : Nat} (hk : k < r.fewL.length) : ¬ ∃ X, r.fitsO (outL (r.fewL.eraseIdx k) false) X := by
  obtain ⟨t, h1, h2, -, h4⟩ := Rw.fewL_spec hr
  rintro ⟨X, hX⟩
  have hj := List.getElem_mem hk
  obtain ⟨j, ej⟩ : ∃ j, j = r.fewL[k] := ⟨_, rfl⟩
  rw [← ej, h2, pickL_mem] at hj
  have hjm : 2 ^ j < 2 ^ r.m := Nat.pow_lt_pow_right (by decide) hj.1
  have hb : ∀ i, (t ^^^ 2 ^ j).testBit i = (t.testBit i && decide (i ≠ j)) := fun i => by
    rw [Nat.testBit_xor, Nat.testBit_two_pow]
    by_cases e : i = j
    · subst e
      simp [hj.2]
    · simp [e, show ¬ j = i from fun h => e h.symm]
  have hl := pickL_less hj.2 hb r.m
  rw [if_pos hj.1] at hl
  have hx := h4 (t ^^^ 2 ^ j) (Nat.xor_lt_two_pow h1 hjm) ⟨X, Rw.fitsO_mono hX (fun i hi ho => ?_)⟩
  · have : r.fewL.length = (pickL t r.m).length := by rw [← h2]
    omega
  · unfold outL at ho
    have hi : i ∈ r.fewL.eraseIdx k := by
      cases e : decide (i ∈ r.fewL.eraseIdx k) with
      | true => exact of_decide_eq_true e
      | false => rw [e] at ho; cases ho
    have hnd : r.fewL.Nodup := by rw [h2]; exact pickL_nodup _ _
    obtain ⟨g1, g2⟩ := mem_erase_idx hnd hk hi
    rw [← ej] at g2
    rw [h2, pickL_mem] at g1
    unfold pickF
    rw [hb i, g1.2]
    simp [g1.1, g2]
theorem Rw.few_none {r : Rw} (hr : r.ok) (h : ∃ X, r.fits X) : r.fewL = [] := by
  obtain ⟨t, -, -, -, h4⟩ := Rw.fewL_spec hr
  obtain ⟨X, hX⟩ := h
  have hz : ∀ k, pickL 0 k = [] := fun k => by
    apply List.eq_nil_iff_forall_not_mem.2
    intro j hj
    have := (pickL_mem.1 hj).2
    simp at this
  have := h4 0 (Nat.two_pow_pos _) ⟨X, Rw.fitsO_mono ((Rw.torn_fits hr).1 hX) (fun i hi ho => by cases ho)⟩
  rw [hz] at this
  exact List.length_eq_zero_iff.1 (Nat.le_zero.1 this)
theorem Rw.few_some {r : Rw} (hr : r.ok) (h : ¬ ∃ X, r.fits X) : 0 < r.fewL.length ∧ r.fewL.length ≤ r.m := by
  obtain ⟨t, h1, h2, ⟨X, hX⟩, h4⟩ := Rw.fewL_spec hr
  constructor
  · rcases Nat.eq_zero_or_pos r.fewL.length with e | e
    · exfalso
      refine h ⟨X, (Rw.torn_fits hr).2 (Rw.fitsO_mono hX (fun i hi ho => ?_))⟩
      have := pickF_iff.1 ho
      rw [← h2, List.length_eq_zero_iff.1 e] at this
      cases this
    · exact e
  · rw [h2]
    exact pickL_len _ _
/-! ### a row with the weighings that are not out -/
def kpL (V : Nat → Wg) (out : Nat → Bool) : Nat → List Wg
  | 0 => []
  | k + 1 => if out k = true then kpL V out k else kpL V out k ++ [V k]
def Rw.kp (r : Rw) (out : Nat → Bool) : Rw := { r with m := (kpL r.V out r.m).length, V := fun k => (kpL r.V out r.m).getD k wg0 }
theorem kpL_yes {V : Nat → Wg} {out : Nat → Bool} {k : Nat} (h : out k = true) : kpL V out (k + 1) = kpL V out k := if_pos h
theorem kpL_no {V : Nat → Wg} {out : Nat → Bool} {k : Nat} (h : out k = false) : kpL V out (k + 1) = kpL V out k ++ [V k] := if_neg (by rw [h]; decide)
theorem kpL_len (V : Nat → Wg) (out : Nat → Bool) : ∀ k, (kpL V out k).length ≤ k
  | 0 => Nat.le_refl _
  | k + 1 => by
    have := kpL_len V out k
    unfold kpL
    split
    · omega
    · simp; omega
theorem kpL_mem {V : Nat → Wg} {out : Nat → Bool} {x : Wg} : ∀ k, x ∈ kpL V out k → ∃ j, j < k ∧ out j = false ∧ x = V j
  | 0, h => by cases h
  | k + 1, h => by
    unfold kpL at h
    split at h
    · obtain ⟨j, a, b⟩ := kpL_mem k h
      exact ⟨j, by omega, b⟩
    · rename_i ho
      rcases List.mem_append.1 h with h | h
      · obtain ⟨j, a, b⟩ := kpL_mem k h
        exact ⟨j, by omega, b⟩
      · exact ⟨k, by omega, by cases e : out k with | false => rfl | true => exact absurd e ho, List.mem_singleton.1 h⟩
theorem kpL_has {V : Nat → Wg} {out : Nat → Bool} : ∀ k j, j < k → out j = false → V j ∈ kpL V out k
  | 0, j, hj, _ => absurd hj (by omega)
  | k + 1, j, hj, ho => by
    by_cases e : j = k
    · subst e
      rw [kpL_no ho]
      exact List.mem_append_right _ (by simp)
    · have ih := kpL_has (V := V) k j (by omega) ho
      unfold kpL
      split
      · exact ih
      · exact List.mem_append_left _ ih
theorem Rw.kp_V {r : Rw} {out : Nat → Bool} {k : Nat} (hk : k < (r.kp out).m) : ∃ j, j < r.m ∧ out j = false ∧ (r.kp out).V k = r.V j := by
  have hk' : k < (kpL r.V out r.m).length := hk
  obtain ⟨j, h1, h2, h3⟩ := kpL_mem _ (List.getElem_mem hk')
  refine ⟨j, h1, h2, ?_⟩
  show (kpL r.V out r.m).getD k wg0 = _
  rw [List.getD_eq_getElem?_getD, List.getElem?_eq_getElem hk', Option.getD_some, h3]
theorem Rw.kp_ok {r : Rw} (hr : r.ok) (out : Nat → Bool) : (r.kp out).ok :=
  ⟨hr.n1, hr.n6, hr.d7, Nat.le_trans (kpL_len _ _ _) hr.m10, hr.b, fun k hk => by
    obtain ⟨j, hj, _, e⟩ := Rw.kp_V hk
    rw [e]
    exact hr.v j hj, hr.k⟩
theorem Rw.kp_fits {r : Rw} (hr : r.ok) (out : Nat → Bool) (X : Nat → Int) : (r.kp out).fits X ↔ r.fitsO out X := by
  have hro := Rw.kp_ok hr out
  constructor
  · intro h
    refine ⟨fun i hi => Rw.fits_sp hro h (i := i) hi, fun i hi ho => ?_⟩
    have hm := kpL_has (V := r.V) r.m i hi ho
    obtain ⟨k, hk, he⟩ := List.getElem_of_mem hm
    have hw := Rw.fits_wgT hro h (i := k) hk
    have hv : (r.kp out).V k = r.V i := by
      show (kpL r.V out r.m).getD k wg0 = _
      rw [List.getD_eq_getElem?_getD, List.getElem?_eq_getElem hk, Option.getD_some, he]
    rw [hv] at hw
    exact hw
  · intro h
    refine Rw.fits_of h.1 (fun k hk => ?_) (fun k hk => ?_)
    · obtain ⟨j, hj, ho, e⟩ := Rw.kp_V hk
      rw [e]
      exact h.2 j hj ho
    · obtain ⟨j, hj, ho, e⟩ := Rw.kp_V hk
      rw [e]
      exact Int.le_trans (hr.v j hj).f (hr.v j hj).ft
theorem Rw.kp_torn {r : Rw} (hr : r.ok) (out : Nat → Bool) : (r.kp out).torn = true ↔ ¬ ∃ X, r.fitsO out X := by
  rw [Rw.torn_iffT (Rw.kp_ok hr out)]
  exact not_congr (exists_congr fun X => Rw.kp_fits hr out X)
/-- what the law asks of a row that clashes -/
structure TornAll (r : Rw) : Prop where
  a : (r.kp (outL r.clashL true)).torn = true
  b : (r.kp (outL r.fewL false)).torn = false
  c : ∀ k, k < r.clashL.length → (r.kp (outL (r.clashL.eraseIdx k) true)).torn = false
  d : ∀ k, k < r.fewL.length → (r.kp (outL (r.fewL.eraseIdx k) false)).torn = true
  n : 0 < r.fewL.length ∧ r.fewL.length ≤ r.m
theorem Rw.torn_all {r : Rw} (hr : r.ok) (h : r.torn = true) : TornAll r := by
  have hn := (Rw.torn_iffT hr).1 h
  have hf : ∀ out, (∃ X, r.fitsO out X) → (r.kp out).torn = false := fun out hx => by
    cases e : (r.kp out).torn with
    | false => rfl
    | true => exact absurd hx ((Rw.kp_torn hr out).1 e)
  exact ⟨(Rw.kp_torn hr _).2 (Rw.clash_all hr hn), hf _ (Rw.few_all hr), fun k hk => hf _ (Rw.clash_one hr hn hk), fun k hk => (Rw.kp_torn hr _).2 (Rw.few_one hr hk), Rw.few_some hr hn⟩
/-- what it asks of a row that does not -/
theorem Rw.torn_not {r : Rw} (hr : r.ok) (h : r.torn = false) : r.fewL = [] ∧ r.round = [] ∧ r.fitErr = 0 ∧ r.clashErr = 1 := by
  have hx : ∃ X, r.fits X := Classical.not_not.1 (fun hn => by rw [(Rw.torn_iffT hr).2 hn] at h; cases h)
  have h2 := Rw.fits_round hr hx.choose_spec
  refine ⟨Rw.few_none hr hx, h2, Rw.fit_zero hr h2, ?_⟩
  unfold Rw.clashErr
  rw [if_neg (by rw [Rw.check_ok.2 hr]; decide), if_neg (by rw [h]; decide)]
end Go.Proofs.YtnnikeolgknfoaaGreat

set_option linter.unusedSimpArgs false
set_option linter.unusedVariables false
namespace Go.Proofs.YtnnikeolgknfoaaGreat
open Go.RowKit Go.Shelf

set_option maxRecDepth 100000 in
set_option maxHeartbeats 1000000 in
theorem copy_int (A : Option Addr) (n c : Nat) (P : Nat → Int) (W : World) (hr : IntRow W W.heap.size A n P) (hn : n ≤ 1000) :
    Calls Tryz.prog 21 #[.slice A n c] W fun e W' => Below W.heap.size W W' ∧ ∃ A c', e = .returned (.slice A n c') ∧ OwnInt W' W.heap.size A n P ∧ n ≤ c' := by
  have HR := Lib.hid hr
  obtain ⟨i0, hi, hz0, hz1, hz2⟩ := info_parts infoInt
  by_cases h0 : n = 0
  · subst h0
    clear hr
    go_enter Tryz.func21, Tryz.ntmps21
    go_wp2_with fail
    go_ret
    exact ⟨Below.refl _ _, none, 0, rfl, fun k hk => by omega, Nat.le_refl _⟩
  · obtain ⟨a, rfl⟩ : ∃ a, A = some a := by cases A with | none => exact absurd (hr.none rfl) h0 | some a => exact ⟨a, rfl⟩
    have hb : ((n : Int) == 0) = false := by rw [beq_eq_false_iff_ne]; omega
    clear hr h0
    go_enter Tryz.func21, Tryz.ntmps21
    go_wp2_with (at_builtin; refine wpList_append_own _ rfl _ _ 31 rfl W.heap.size 3 i0 (.int .i64 0) 1 8 ints_under hi hz0 hz1 hz2 rfl (by decide) (.slice (some ⟨W.heap.size, 0, none⟩) 0 0) 0 [] rfl (World.ownsRow_made W #[] 0 (Nat.le_refl _) (Nat.zero_le _) rfl) a n c (numCells P n) rfl (by rw [numCells_len, Nat.mul_one]) ?c1 (numCells_one _ _) ?c3 ?c4 ?c5 ?_)
    case c1 =>
      intro j u hj
      exact Lib.cell?_alloc_some _ (HR.out.atN hj)
    case c3 => unfold maxLen; omega
    case c4 => omega
    case c5 => simp
    intro v' w1 hown hgrow hnil
    go_wp2
    go_ret
    have hB : Below W.heap.size W w1 := ((Below.refl _ W).alloc (Nat.le_refl _) _).grown hgrow (by simp) (by intro k hk; simp [Value.ownBlock] at hk; omega)
    obtain ⟨A, c', rfl, h1, h2⟩ := ownInt_T (X := P) (by simpa using hown)
    exact ⟨hB, A, c', rfl, h1, h2⟩

set_option maxRecDepth 100000 in
set_option maxHeartbeats 2000000 in
theorem alike_kd (A C : Option Addr) (n m ca cc : Nat) (X Y : Nat → Int) (W : World) (hA : IntRow W W.heap.size A n X) (hC : IntRow W W.heap.size C m Y) (hn : n ≤ 1000) :
    Calls Tryz.prog 78 #[.slice A n ca, .slice C m cc] W fun e W' => e = .returned (.bool (decide (n = m) && allN (fun k => decide (X k = Y k)) n)) ∧ Below W.heap.size W W' := by
  have HA := Lib.hid hA
  have HC := Lib.hid hC
  clear hA hC
  by_cases hnm : n = m
  · subst hnm
    have hb : ((n : Int) != (n : Int)) = false := by simp
    go_enter Tryz.func78, Tryz.ntmps78
    go_wp2_with fail
    go_loopw [14] (fun i wr => ∃ k : Nat, k ≤ n ∧ i = .int .i64 k ∧ Hid (allN (fun k => decide (X k = Y k)) k = true) ∧ wr = W) (fun i _ => n - (intOf i).toNat)
    case atStart => exact ⟨0, Nat.zero_le _, rfl, Lib.hid rfl, rfl⟩
    case round =>
      obtain ⟨k, hk, rfl, hal, rfl⟩ := hrel
      by_cases hlt : k < n
      · obtain ⟨b, o, rfl, hb1, c0⟩ := HA.out k hlt
        obtain ⟨b', o', rfl, hb2, d0⟩ := HC.out k hlt
        have hk0 : (0 : Int) ≤ (k : Int) := by omega
        have hkn : (k : Int) < (n : Int) := by omega
        cases hxy : X k != Y k with
        | false =>
          have hal2 : Hid (allN (fun k => decide (X k = Y k)) (k + 1) = true) := Lib.hid (by
            show (allN _ k && decide (X k = Y k)) = true
            rw [hal.out]
            have : X k = Y k := by simpa using hxy
            simp [this])
          go_wp2_with fail
          go_roundw
          case rel => exact ⟨k + 1, by omega, by go_num, hal2, trivial⟩
          case measure => simp [intOf]; omega
        | true =>
          have hno : Hid (allN (fun k => decide (X k = Y k)) n = false) := Lib.hid (by
            cases h : allN (fun k => decide (X k = Y k)) n with
            | false => rfl
            | true =>
              have h2 := allN_iff.1 h k hlt
              simp only [decide_eq_true_eq] at h2
              rw [h2] at hxy
              simp at hxy)
          go_wp2_with fail
          go_ret
          exact ⟨by rw [hno.out]; simp, Below.refl _ _⟩
      · obtain rfl : k = n := by omega
        have hge : ¬ (k : Int) < (k : Int) := by omega
        go_wp2_with fail
        go_ret
        exact ⟨by rw [hal.out]; simp, Below.refl _ _⟩
  · have hb : ((n : Int) != (m : Int)) = true := by rw [bne_iff_ne]; omega
    have HN := Lib.hid hnm
    clear hnm
    go_enter Tryz.func78, Tryz.ntmps78
    go_wp2_with fail
    go_ret
    exact ⟨by simp [HN.out], Below.refl _ _⟩

end Go.Proofs.YtnnikeolgknfoaaGreat

set_option linter.unusedSimpArgs false
set_option linter.unusedVariables false
namespace Go.Proofs.YtnnikeolgknfoaaGreat
open Go.RowKit Go.Shelf

theorem run_copy_sizedV {P : Program} (w : World) (dT sT ty elem : TypeId) (s g o dLen dCap : Nat) (a : Addr) (sLen sCap : Nat) (cur : Array Value) (t : TypeId) (cs : List Value)
    (hu : P.underlying dT = some (.slice elem)) (hs : (P.info? elem).map (·.size) = some s)
    (hg : w.heap[g]? = some (.cells cur t (0, 0))) (hn : cs.length = Nat.min sLen dLen * s)
    (hsrc : ∀ j v, cs[j]? = some v → w.cell? (a.add j) = some v) (hfit : o + cs.length ≤ cur.size) (h1 : ∀ v ∈ cs, v.oneCell' = true) :
    (Builtin.copy_ #[dT, sT] ty #[.slice (some ⟨g, o, none⟩) dLen dCap, .slice (some a) sLen sCap]).run P w =
      .ok (goInt (Nat.min sLen dLen)) (w.setRow g (cur.toList.take o ++ cs ++ cur.toList.drop (o + cs.length)).toArray) := by
  have hl := run_loadCells_list (P := P) w a cs hsrc
  have hst := run_storeCells_at (P := P) g o t cs 0 cur w hg (by simpa using hfit) h1
  cases hq : P.info? elem with
  | none => simp [hq] at hs
  | some i =>
    have hi : i.size = s := by simpa [hq] using hs
    simp [Builtin.copy_, run_underlying hu, Builtin.lenOf, Builtin.firstCells, sizeOf, typeInfo, hq, hi, ← hn, hl, hst]
theorem wpList_copy_sizedV {P : Program} {w : World} {ops : Array Oper} {rest : List Oper} {o : Oper} {a : Act} {Q : Exit → Act → World → Prop} (hgd : o.guard = none) (d s : Operand) (dT sT : TypeId)
    (ho : o.op = .call { callee := .builtin .copy, args := #[d, s], argTypes := #[dT, sT] }) (elem : TypeId) (sz : Nat) (hu : P.underlying dT = some (.slice elem)) (hsz : (P.info? elem).map (·.size) = some sz)
    (g off dLen dCap : Nat) (ad : Addr) (sLen sCap : Nat) (hd : a.eval d = .slice (some ⟨g, off, none⟩) dLen dCap) (hs : a.eval s = .slice (some ad) sLen sCap)
    (cur : Array Value) (t : TypeId) (hg : w.heap[g]? = some (.cells cur t (0, 0))) (cs : List Value) (hn : cs.length = Nat.min sLen dLen * sz)
    (hsrc : ∀ j v, cs[j]? = some v → w.cell? (ad.add j) = some v) (hfit : off + cs.length ≤ cur.size) (h1 : ∀ v ∈ cs, v.oneCell' = true)
    (h : wpList P ops Q rest (a.put o.dst (goInt (Nat.min sLen dLen))) (w.setRow g (cur.toList.take off ++ (cs ++ cur.toList.drop (off + cs.length))).toArray)) : wpList P ops Q (o :: rest) a w := by
  refine wpList_plain hgd fun K hK => ?_
  have hrun := run_copy_sizedV (P := P) w dT sT o.type elem sz g off dLen dCap ad sLen sCap cur t cs hu hsz hg hn hsrc hfit h1
  unfold Oper.wp
  simp [execOp, ho, resolve, invoke, builtin, hd, hs, hrun, Result.andThen]
  exact hK _ _ h
theorem mkFc (n : Nat) (hn : n ≤ 1000) (w : World) : (Instr.makeSlice 73 (.int .i64 (n : Int)) (.int .i64 (n : Int))).run Tryz.prog w = .ok (.slice (some ⟨w.heap.size, 0, none⟩) n n) (w.alloc (.cells (madeCells (Value.cells (.agg #[.bool false, .int .i64 0, .bool false])) (n * 3)) 76)) := by
  obtain ⟨i0, hi, hz0, hz1, hz2⟩ := info_parts infoFc
  have h := run_make (P := Tryz.prog) w 73 76 i0 _ fcs_under hi hz0 .i64 .i64 (n : Int) (n : Int) (by omega) (Int.le_refl _) (by rw [hz2]; omega) (by omega)
  rw [hz1, Int.toNat_natCast] at h
  exact h
/-- a walk that contradicts, or an error -/
def RoundPost (r : Rw) (W : World) (e : Ending) (W' : World) : Prop :=
  (r.check = 0 ∧ r.round ≠ [] ∧ ∃ (A : Option Addr) (c : Nat), e = .returned (.tuple #[.slice A r.round.length c, .int .i64 0]) ∧ W'.ownsRow W.heap.size 76 3 (.slice A r.round.length c) r.round.length (fcL r.round) ∧ Below W.heap.size W W') ∨
  (r.check = 0 ∧ r.round = [] ∧ e = .returned (.tuple #[.slice none 0 0, .int .i64 1]) ∧ Below W.heap.size W W') ∨
  (r.check ≠ 0 ∧ e = .returned (.tuple #[.slice none 0 0, .int .i64 r.check]) ∧ Below W.heap.size W W')

set_option maxRecDepth 100000 in
set_option maxHeartbeats 4000000 in
theorem Truth_no (r : Rw) (h : r.fitErr ≠ 0) (bA dA vA : Option Addr) (bc dc vc : Nat) (W : World) (hrow : RwRow W W.heap.size r bA bc dA dc vA vc) :
    Calls Tryz.prog 52 #[rwV bA r.n bc dA r.d dc vA r.m vc] W (fun e W' => e = .returned (.tuple #[.slice none 0 0, .int .i64 r.fitErr]) ∧ Below W.heap.size W W') := by
  have H0 := Lib.hid hrow
  have HE := Lib.hid h
  have hne : (r.fitErr != 0) = true := by simpa using h
  clear hrow h
  go_enter Tryz.func52, Tryz.ntmps52
  go_wp2_with fail
  refine (fitting_any r bA dA vA bc dc vc _ ((H0.out.later (by repeat (first | (with_reducible first | exact Below.refl _ _ | assumption | refine Below.drew ?_) | ((with_reducible first | refine Lc ?_ ?_ _ | refine Ls ?_ ?_ _ | refine Lv (by assumption) ?_ ?_); · first | exact Nat.le_refl _ | omega | (dsimp only; omega) | (simp only [World.size_alloc, World.size_drew, World.heap_drewN]; omega) | (simp; omega))))).up (by first | exact Nat.le_refl _ | omega | (simp; done) | (simp; omega) | (simp at *; omega)) (by first | exact Nat.le_refl _ | omega | (simp; done) | (simp; omega) | (simp at *; omega)))).mono ?_
  rintro e w1 (⟨h0, db, A, c, rfl, hdb, hd, ho, hb1⟩ | ⟨h0, rfl, hb1⟩)
  · exact absurd h0 HE.out
  · have HB1 := Lib.hid (show Below W.heap.size W w1 from (by repeat (first | (with_reducible first | exact Below.refl _ _ | refine Below.drew ?_ | refine below_drewN ?_ _) | ((with_reducible first | refine Lc ?_ ?_ _ | refine Ls ?_ ?_ _ | refine Lv (by assumption) ?_ ?_); · first | exact Nat.le_refl _ | omega | (simp; done) | (simp; omega) | (simp at *; omega)))))
    clear hb1 h0
    go_wp2_with fail
    go_ret2
    exact ⟨rfl, HB1.out.alloc HB1.out.size _⟩

set_option maxRecDepth 100000 in
set_option maxHeartbeats 4000000 in
theorem Round_any (r : Rw) (bA dA vA : Option Addr) (bc dc vc : Nat) (W : World) (hrow : RwRow W W.heap.size r bA bc dA dc vA vc) :
    Calls Tryz.prog 46 #[rwV bA r.n bc dA r.d dc vA r.m vc] W (RoundPost r W) := by
  have H0 := Lib.hid hrow
  clear hrow
  obtain ⟨i0, hi, hz0, hz1, hz2⟩ := info_parts infoFc
  go_enter Tryz.func46, Tryz.ntmps46
  go_wp2_with fail
  refine (opened_any r bA dA vA bc dc vc _ ((H0.out.later (by repeat (first | (with_reducible first | exact Below.refl _ _ | assumption | refine Below.drew ?_) | ((with_reducible first | refine Lc ?_ ?_ _ | refine Ls ?_ ?_ _ | refine Lv (by assumption) ?_ ?_); · first | exact Nat.le_refl _ | omega | (dsimp only; omega) | (simp only [World.size_alloc, World.size_drew, World.heap_drewN]; omega) | (simp; omega))))).up (by first | exact Nat.le_refl _ | omega | (simp; done) | (simp; omega) | (simp at *; omega)) (by first | exact Nat.le_refl _ | omega | (simp; done) | (simp; omega) | (simp at *; omega)))).mono ?_
  rintro e w1 (⟨h0, db, A, c, rfl, hdb, hd, ho, hb1⟩ | ⟨h0, rfl, hb1⟩)
  · have HB1 := Lib.hid (show Below W.heap.size W w1 from (by repeat (first | (with_reducible first | exact Below.refl _ _ | refine Below.drew ?_ | refine below_drewN ?_ _) | ((with_reducible first | refine Lc ?_ ?_ _ | refine Ls ?_ ?_ _ | refine Lv (by assumption) ?_ ?_); · first | exact Nat.le_refl _ | omega | (simp; done) | (simp; omega) | (simp at *; omega)))))
    have hs1 := HB1.out.size
    have HE := Lib.hid h0
    have HO := Lib.hid (owns_low (by simp) ho : w1.ownsRow W.heap.size 76 3 (.slice A r.round.length c) r.round.length (fcL r.round))
    have hr1 := hd.rd
    have hok := Rw.check_ok.1 h0
    by_cases hz : r.round = []
    · have HZ := Lib.hid hz
      have hl0 : (r.round.length : Int) = 0 := by rw [hz]; rfl
      have hb0 : ((r.round.length : Int) == 0) = true := by rw [hl0]; rfl
      clear h0 hd ho hb1 hok hz hl0
      go_wp2_with fail
      go_ret2
      exact .inr (.inl ⟨HE.out, HZ.out, rfl, HB1.out⟩)
    · have HZ := Lib.hid hz
      have hT : Torn r r.round := by
        rcases Rw.round_spec hok with ⟨-, h1, -⟩ | ⟨a, k, -, -, -, -, h1⟩
        · exact absurd h1 hz
        · exact h1
      have hm := hT.m
      have hfl := fcL_len r.round
      have hf1 := fcL_one r.round
      obtain ⟨l, hl⟩ : ∃ l, l = r.round := ⟨_, rfl⟩
      rw [← hl] at HO hr1 hm hfl hf1
      have hpos : 0 < l.length := by
        rw [hl]
        exact List.length_pos_iff.2 hz
      have HL := Lib.hid hl
      have hb0 : ((l.length : Int) == 0) = false := by rw [beq_eq_false_iff_ne]; omega
      obtain ⟨n, hn⟩ : ∃ n, n = l.length := ⟨_, rfl⟩
      have HN := Lib.hid hn
      rw [← hn] at HO hr1 hm hfl hpos hb0
      have hmk := mkFc n (by omega)
      rcases HO.out.2 with ⟨-, h00⟩ | ⟨g, cap, cur0, e0, hbg, -⟩
      · omega
      injection e0 with e1 _ e2
      subst e1
      have hcl : ∀ jj u, (fcL l)[jj]? = some u → w1.cell? ((⟨g, 0, none⟩ : Addr).add jj) = some u := fun jj u hu => HO.out.cells (g := g) rfl jj u hu
      have HCL := Lib.hid hcl
      have HFL := Lib.hid hfl
      have HF1 := Lib.hid hf1
      clear e2 hcl hfl hf1
      clear h0 hd ho hb1 hok hz hl hT hn
      have hgl : g < w1.heap.size := World.block_lt_of_cell? w1 _ (HCL.out 0 (.bool (l.getD 0 fc0).w) (by have h := fcL_get l 0 0 (by have := HN.out; omega) (by omega); simpa [fcC] using h))
      have hg2 : (w1.alloc (.cells (madeCells #[Value.bool false, .int .i64 0, .bool false] (n * 3)) 76)).heap[w1.heap.size]? = some (.cells (madeCells #[Value.bool false, .int .i64 0, .bool false] (n * 3)) 76 (0, 0)) := by
        show (w1.heap.push _)[w1.heap.size]? = _
        simp
      have hfl3 : (fcL l).length = n * 3 := by rw [HFL.out]
      have hcp := run_copy_sizedV (P := Tryz.prog) (w1.alloc (.cells (madeCells #[Value.bool false, .int .i64 0, .bool false] (n * 3)) 76)) 73 73 3 76 3 w1.heap.size 0 n n ⟨g, 0, none⟩ n c _ 76 (fcL l) fcs_under (by rw [hi]; simp [hz1]) hg2 (by rw [hfl3]; simp) (fun jj u hu => Lib.cell?_alloc_some _ (HCL.out jj u hu)) (by rw [hfl3, size_madeCells]; omega) HF1.out
      obtain ⟨w2, hw2⟩ : ∃ w2, w2 = (w1.alloc (.cells (madeCells #[Value.bool false, .int .i64 0, .bool false] (n * 3)) 76)).setRow w1.heap.size (List.take 0 (madeCells #[Value.bool false, .int .i64 0, .bool false] (n * 3)).toList ++ fcL l ++ List.drop (0 + (fcL l).length) (madeCells #[Value.bool false, .int .i64 0, .bool false] (n * 3)).toList).toArray := ⟨_, rfl⟩
      rw [← hw2, show n.min n = n from Nat.min_self n] at hcp
      have hx : (List.take 0 (madeCells #[Value.bool false, .int .i64 0, .bool false] (n * 3)).toList ++ fcL l ++ List.drop (0 + (fcL l).length) (madeCells #[Value.bool false, .int .i64 0, .bool false] (n * 3)).toList) = fcL l := by
        rw [List.drop_eq_nil_of_le (by rw [hfl3, Array.length_toList, size_madeCells]; omega)]
        simp
      rw [hx] at hw2
      have ho2 : w2.ownsRow W.heap.size 76 3 (.slice (some ⟨w1.heap.size, 0, none⟩) n n) n (fcL l) := by
        rw [hw2]
        exact ⟨hfl3, .inr ⟨w1.heap.size, n, (fcL l).toArray, rfl, hs1, setRow_heap _ _ _ _ _ _ hg2, Nat.le_refl _, by unfold maxLen; omega, by simpa using hfl3, by rw [List.take_of_length_le (by simp; omega)]⟩⟩
      have hb2 : Below W.heap.size W w2 := by
        rw [hw2]
        exact below_setRow (HB1.out.alloc hs1 _) hs1 _
      have HO2 := Lib.hid ho2
      have HB2 := Lib.hid hb2
      have hmk2 : ∀ w : World, (Instr.makeSlice 73 (.int .i64 (n : Int)) (.int .i64 (n : Int))).run Tryz.prog w = .ok (.slice (some ⟨w.heap.size, 0, none⟩) n n) (w.alloc (.cells (madeCells #[Value.bool false, .int .i64 0, .bool false] (n * 3)) 76)) := hmk
      clear ho2 hb2 hw2 hx hg2 hfl3 hmk
      go_wp2_with fail
      go_ret2
      refine .inl ⟨HE.out, HZ.out, some ⟨w1.heap.size, 0, none⟩, n, ?_, ?_, HB2.out⟩
      · rw [← HL.out, ← HN.out]
        rfl
      · rw [← HL.out, ← HN.out]
        exact HO2.out
  · have HB1 := Lib.hid (show Below W.heap.size W w1 from (by repeat (first | (with_reducible first | exact Below.refl _ _ | refine Below.drew ?_ | refine below_drewN ?_ _) | ((with_reducible first | refine Lc ?_ ?_ _ | refine Ls ?_ ?_ _ | refine Lv (by assumption) ?_ ?_); · first | exact Nat.le_refl _ | omega | (simp; done) | (simp; omega) | (simp at *; omega)))))
    have hne : (r.check != 0) = true := by simpa using h0
    have HE := Lib.hid h0
    clear hb1 h0
    go_wp2_with fail
    go_ret2
    exact .inr (.inr ⟨HE.out, rfl, HB1.out⟩)
end Go.Proofs.YtnnikeolgknfoaaGreat

set_option linter.unusedSimpArgs false
set_option linter.unusedVariables false
namespace Go.Proofs.YtnnikeolgknfoaaGreat
open Go.RowKit Go.Shelf

set_option maxRecDepth 100000 in
set_option maxHeartbeats 1000000 in
theorem isW_any (x : Fc) (W : World) :
    Calls Tryz.prog 57 #[fcV x] W fun e W' => e = .returned (.bool x.w) ∧ Below W.heap.size W W' := by
  obtain ⟨w, i, m⟩ := x
  go_enter Tryz.func57, Tryz.ntmps57
  go_wp2_with fail
  go_ret
  exact ⟨rfl, (by repeat (first | (with_reducible first | exact Below.refl _ _ | refine Below.drew ?_ | refine below_drewN ?_ _) | ((with_reducible first | refine Lc ?_ ?_ _ | refine Ls ?_ ?_ _ | refine Lv (by assumption) ?_ ?_); · first | exact Nat.le_refl _ | omega | (simp; done) | (simp; omega) | (simp at *; omega))))⟩

set_option maxRecDepth 100000 in
set_option maxHeartbeats 1000000 in
theorem idxW_any (A : Option Addr) (n c : Nat) (P : Nat → Fc) (W : World) (hr : FcRow W W.heap.size A n P) (hn : n ≤ 1000) (hex : ∃ j, j < n ∧ (P j).w = true) :
    Calls Tryz.prog 125 #[.slice A n c, .func (.func 57) #[] #[]] W fun e w' => (∃ k : Nat, k ≤ 1000 ∧ e = .returned (.int .i64 (k : Int))) ∧ Below W.heap.size W w' := by
  have HR := Lib.hid hr
  have HX := Lib.hid hex
  have hcf := enters_of Tryz.func57 (by kernel_rfl) rfl
  clear hr hex
  go_enter Tryz.func125, Tryz.ntmps125
  go_wp2_with fail
  go_loopw [8] (fun i wr => ∃ k : Nat, k ≤ n ∧ i = .int .i64 k ∧ Hid (∀ q, q < k → (P q).w = false) ∧ Below W.heap.size W wr) (fun i _ => n - (intOf i).toNat)
  case atStart => exact ⟨0, Nat.zero_le _, rfl, Lib.hid (fun q hq => absurd hq (by omega)), Below.refl _ _⟩
  case round =>
    obtain ⟨k, hk, rfl, h0, hbw⟩ := hrel
    have HBW := Lib.hid hbw
    clear hbw
    by_cases hlt : k < n
    · obtain ⟨b, o, rfl, hb', c0, c1, c2⟩ := HR.out.below HBW.out k hlt
      have hcall := Lib.hid (isW_any (P k) wr)
      go_wp2_with fail
      refine hcall.out.mono ?_
      rintro e w1 ⟨rfl, hb1⟩
      have hsz := HBW.out.size
      by_cases hh : (P k).w = true
      · rw [hh]
        have hy := HBW.out
        go_wp2_with fail
        go_ret
        exact ⟨⟨k, by omega, rfl⟩, (by repeat (first | (with_reducible first | exact Below.refl _ _ | refine Below.drew ?_ | refine below_drewN ?_ _) | ((with_reducible first | refine Lc ?_ ?_ _ | refine Ls ?_ ?_ _ | refine Lv (by assumption) ?_ ?_); · first | exact Nat.le_refl _ | omega | (simp; done) | (simp; omega) | (simp at *; omega))))⟩
      · simp only [Bool.not_eq_true] at hh
        rw [hh]
        have HH := Lib.hid hh
        have hall : Hid (Below W.heap.size W w1) := Lib.hid (by have hy := HBW.out; exact (by repeat (first | (with_reducible first | exact Below.refl _ _ | refine Below.drew ?_ | refine below_drewN ?_ _) | ((with_reducible first | refine Lc ?_ ?_ _ | refine Ls ?_ ?_ _ | refine Lv (by assumption) ?_ ?_); · first | exact Nat.le_refl _ | omega | (simp; done) | (simp; omega) | (simp at *; omega)))))
        clear hh
        go_wp2_with fail
        go_roundw
        case rel => exact ⟨k + 1, by omega, by go_num, Lib.hid (fun q hq => by
          by_cases e : q = k
          · subst e; exact HH.out
          · exact h0.out q (by omega)), hall.out⟩
        case measure => simp [intOf]; omega
    · have hk' : k = n := by omega
      obtain ⟨j, hj, hjw⟩ := HX.out
      have := h0.out j (by omega)
      rw [hjw] at this
      cases this

set_option maxRecDepth 100000 in
set_option maxHeartbeats 1000000 in
theorem hasW_any (A : Option Addr) (n c : Nat) (P : Nat → Fc) (W : World) (hr : FcRow W W.heap.size A n P) (hn : n ≤ 1000) (hex : ∃ j, j < n ∧ (P j).w = true) :
    Calls Tryz.prog 56 #[.slice A n c, .func (.func 57) #[] #[]] W fun e w' => e = .returned (.bool true) ∧ Below W.heap.size W w' := by
  have H := Lib.hid (idxW_any A n c P W hr hn hex)
  clear hr hex
  go_enter Tryz.func56, Tryz.ntmps56
  go_wp2_with fail
  refine H.out.mono ?_
  rintro e w1 ⟨⟨k, hk, rfl⟩, hb1⟩
  have hk0 : (0 : Int) ≤ (k : Int) := by omega
  go_wp2_with fail
  go_ret
  exact ⟨rfl, hb1⟩

set_option maxRecDepth 100000 in
set_option maxHeartbeats 1000000 in
theorem index_any (A : Option Addr) (c v : Nat) (l : List Nat) (W : World) (hr : IntRow W W.heap.size A l.length (numOf l)) (hn : l.length ≤ 1000) :
    Calls Tryz.prog 126 #[.slice A l.length c, .int .i64 (v : Int)] W fun e w' => (∃ z : Int, e = .returned (.int .i64 z) ∧ (0 ≤ z ↔ v ∈ l)) ∧ w' = W := by
  have HR := Lib.hid hr
  obtain ⟨n, hl⟩ : ∃ n, n = l.length := ⟨_, rfl⟩
  have HL := Lib.hid hl
  rw [← hl] at HR hn
  rw [← hl]
  clear hr hl
  go_enter Tryz.func126, Tryz.ntmps126
  go_wp2_with fail
  go_loopw [8] (fun i wr => ∃ k : Nat, k ≤ n ∧ i = .int .i64 k ∧ Hid (∀ q, q < k → l.getD q 0 ≠ v) ∧ wr = W) (fun i _ => n - (intOf i).toNat)
  case atStart => exact ⟨0, Nat.zero_le _, rfl, Lib.hid (fun q hq => absurd hq (by omega)), rfl⟩
  case round =>
    obtain ⟨k, hk, rfl, h0, rfl⟩ := hrel
    by_cases hlt : k < n
    · obtain ⟨b, o, rfl, hb', c0⟩ := HR.out k hlt
      have hk0 : (0 : Int) ≤ (k : Int) := by omega
      have hkn : (k : Int) < (n : Int) := by omega
      obtain ⟨y, hy⟩ : ∃ y, y = l.getD k 0 := ⟨_, rfl⟩
      have hyy : numOf l k = (y : Int) := by rw [hy]; rfl
      rw [hyy] at c0
      have HY := Lib.hid hy
      clear hy hyy
      by_cases hh : v = y
      · have hb2 : ((v : Int) == (y : Int)) = true := by rw [beq_iff_eq]; omega
        have hb3 : ((y : Int) == (v : Int)) = true := by rw [beq_iff_eq]; omega
        have HH := Lib.hid hh
        clear hh
        go_wp2_with fail
        go_ret
        refine ⟨⟨(k : Int), rfl, fun _ => ?_, fun _ => by omega⟩, rfl⟩
        have hlt' : k < l.length := by rw [← HL.out]; exact hlt
        have := HY.out
        rw [List.getD_eq_getElem?_getD, List.getElem?_eq_getElem hlt', Option.getD_some] at this
        rw [HH.out, this]
        exact List.getElem_mem _
      · have hb2 : ((v : Int) == (y : Int)) = false := by rw [beq_eq_false_iff_ne]; omega
        have hb3 : ((y : Int) == (v : Int)) = false := by rw [beq_eq_false_iff_ne]; omega
        have HH := Lib.hid hh
        clear hh
        go_wp2_with fail
        go_roundw
        case rel => exact ⟨k + 1, by omega, by go_num, Lib.hid (fun q hq => by
          by_cases e : q = k
          · subst e; rw [← HY.out]; exact fun e2 => HH.out e2.symm
          · exact h0.out q (by omega)), (by first | rfl | trivial)⟩
        case measure => simp [intOf]; omega
    · have hk' : k = n := by omega
      have hge : ¬ (k : Int) < (n : Int) := by omega
      go_wp2_with fail
      go_ret
      refine ⟨⟨-1, rfl, fun h => absurd h (by decide), fun h => ?_⟩, rfl⟩
      obtain ⟨q, hq, e⟩ := List.getElem_of_mem h
      have := h0.out q (by rw [hk', HL.out]; exact hq)
      rw [List.getD_eq_getElem?_getD, List.getElem?_eq_getElem hq, Option.getD_some] at this
      exact absurd e this

set_option maxRecDepth 100000 in
set_option maxHeartbeats 1000000 in
theorem contains_any (A : Option Addr) (c v : Nat) (l : List Nat) (W : World) (hr : IntRow W W.heap.size A l.length (numOf l)) (hn : l.length ≤ 1000) :
    Calls Tryz.prog 59 #[.slice A l.length c, .int .i64 (v : Int)] W fun e w' => e = .returned (.bool (decide (v ∈ l))) ∧ w' = W := by
  have H := Lib.hid (index_any A c v l W hr hn)
  clear hr
  by_cases hv : v ∈ l
  · have HV := Lib.hid hv
    clear hv
    go_enter Tryz.func59, Tryz.ntmps59
    go_wp2_with fail
    refine H.out.mono ?_
    rintro e w1 ⟨⟨z, rfl, hz⟩, rfl⟩
    have hz0 : 0 ≤ z := hz.2 HV.out
    clear hz
    go_wp2_with fail
    go_ret
    exact ⟨by simp [HV.out], rfl⟩
  · have HV := Lib.hid hv
    clear hv
    go_enter Tryz.func59, Tryz.ntmps59
    go_wp2_with fail
    refine H.out.mono ?_
    rintro e w1 ⟨⟨z, rfl, hz⟩, rfl⟩
    have hz0 : ¬ 0 ≤ z := fun h => HV.out (hz.1 h)
    clear hz
    go_wp2_with fail
    go_ret
    exact ⟨by simp [HV.out]; omega, rfl⟩
end Go.Proofs.YtnnikeolgknfoaaGreat

set_option linter.unusedSimpArgs false
set_option linter.unusedVariables false
namespace Go.Proofs.YtnnikeolgknfoaaGreat
open Go.RowKit Go.Shelf

theorem Rw.torn_fit {r : Rw} (hr : r.ok) : (r.torn = false ∧ r.fitErr = 0) ∨ (r.torn = true ∧ r.fitErr = 7) := by
  have h : r.fitErr = 0 ∨ r.fitErr = 7 := by
    unfold Rw.fitErr
    rw [if_neg (by rw [Rw.check_ok.2 hr]; decide)]
    split
    · exact .inl rfl
    · exact .inr rfl
  unfold Rw.torn
  rcases h with h | h
  · exact .inl ⟨by rw [h]; rfl, h⟩
  · exact .inr ⟨by rw [h]; rfl, h⟩

set_option maxRecDepth 100000 in
set_option maxHeartbeats 8000000 in
theorem torn_any (r : Rw) (hr : r.ok) (l : List Nat) (hl : l.length ≤ 1000) (A : Option Addr) (c : Nat) (wb : Bool) (rb : Nat) (bA dA vA : Option Addr) (bc dc vc : Nat) (W : World) (hd : RwAt W rb r bA bc dA dc vA vc) (hrow : RwRow W W.heap.size r bA bc dA dc vA vc) (hli : IntRow W W.heap.size A l.length (numOf l)) :
    Calls Tryz.prog 58 #[.slice A l.length c, .bool wb, .pointer (some ⟨rb, 0, none⟩)] W fun e W' => e = .returned (.bool (r.kp (outL l wb)).torn) ∧ Below W.heap.size W W' := by
  have H0 := Lib.hid hrow
  have HOK := Lib.hid hr
  have HLI := Lib.hid hli
  have hn6 := hr.n6
  have hm10 := hr.m10
  obtain ⟨c0, c1, c2⟩ := hd
  have hrl := World.block_lt_of_cell? W _ c0
  dsimp only at hrl
  obtain ⟨i0, hi, hz0, hz1, hz2⟩ := info_parts infoWg
  obtain ⟨ll, hll⟩ : ∃ ll, ll = l.length := ⟨_, rfl⟩
  have HLL := Lib.hid hll
  rw [← hll]
  obtain ⟨out, hout⟩ : ∃ o, o = outL l wb := ⟨_, rfl⟩
  have HOUT := Lib.hid hout
  rw [← hout]
  clear hrow hr hli hll hout
  go_enter Tryz.func58, Tryz.ntmps58
  go_wp2_with fail
  refine (own_any r bA dA vA bc dc vc _ H0.out).mono ?_
  rintro e w1 ⟨bA', dA', vA', bc', dc', vc', rfl, hob, hod, hov, ⟨hbc, hdc, hvc⟩, hb1⟩
  have HB1 := Lib.hid hb1
  have HOB := Lib.hid hob
  have HOD := Lib.hid hod
  have hs1 := hb1.size
  have d2 := Kb hb1 c2
  clear hb1 hob hod hov c0 c1 c2 hvc
  go_upto_region 3 with fail
  refine wp_world (fun w' => V3 w' w1.heap.size (.slice bA' r.n bc') (.slice dA' r.d dc') (.slice none 0 0) ∧ Below w1.heap.size w1 w' ∧ w1.heap.size + 1 ≤ w'.heap.size) ⟨⟨(by (repeat' refine And.intro ?_ ?_) <;> (repeat (first | with_reducible assumption | (simp; done) | (with_reducible first | refine Kd ?_ | refine Kn ?_ | refine Kb (by assumption) ?_) | ((with_reducible first | refine Kw ?_ ?_ | refine Fw ?_) <;> first | with_reducible rfl | (simp; done)) | (with_reducible first | refine Ka _ ?_ | refine Ks _ (by first | exact Nat.le_refl _ | omega | (simp; done) | (simp; omega)) ?_ | refine Fd ?_ | refine Fn ?_ | refine Fb (by assumption) (by first | exact Nat.le_refl _ | omega | (simp; done) | (simp; omega)) ?_ | refine Fa _ (by first | exact Nat.le_refl _ | omega | (simp; done) | (simp; omega)) ?_ | refine Fs _ ?_)))), (by (repeat' refine And.intro ?_ ?_) <;> (repeat (first | with_reducible assumption | (simp; done) | (with_reducible first | refine Kd ?_ | refine Kn ?_ | refine Kb (by assumption) ?_) | ((with_reducible first | refine Kw ?_ ?_ | refine Fw ?_) <;> first | with_reducible rfl | (simp; done)) | (with_reducible first | refine Ka _ ?_ | refine Ks _ (by first | exact Nat.le_refl _ | omega | (simp; done) | (simp; omega)) ?_ | refine Fd ?_ | refine Fn ?_ | refine Fb (by assumption) (by first | exact Nat.le_refl _ | omega | (simp; done) | (simp; omega)) ?_ | refine Fa _ (by first | exact Nat.le_refl _ | omega | (simp; done) | (simp; omega)) ?_ | refine Fs _ ?_)))), (by (repeat' refine And.intro ?_ ?_) <;> (repeat (first | with_reducible assumption | (simp; done) | (with_reducible first | refine Kd ?_ | refine Kn ?_ | refine Kb (by assumption) ?_) | ((with_reducible first | refine Kw ?_ ?_ | refine Fw ?_) <;> first | with_reducible rfl | (simp; done)) | (with_reducible first | refine Ka _ ?_ | refine Ks _ (by first | exact Nat.le_refl _ | omega | (simp; done) | (simp; omega)) ?_ | refine Fd ?_ | refine Fn ?_ | refine Fb (by assumption) (by first | exact Nat.le_refl _ | omega | (simp; done) | (simp; omega)) ?_ | refine Fa _ (by first | exact Nat.le_refl _ | omega | (simp; done) | (simp; omega)) ?_ | refine Fs _ ?_)))), (by (repeat' refine And.intro ?_ ?_) <;> (repeat (first | with_reducible assumption | (simp; done) | (with_reducible first | refine Kd ?_ | refine Kn ?_ | refine Kb (by assumption) ?_) | ((with_reducible first | refine Kw ?_ ?_ | refine Fw ?_) <;> first | with_reducible rfl | (simp; done)) | (with_reducible first | refine Ka _ ?_ | refine Ks _ (by first | exact Nat.le_refl _ | omega | (simp; done) | (simp; omega)) ?_ | refine Fd ?_ | refine Fn ?_ | refine Fb (by assumption) (by first | exact Nat.le_refl _ | omega | (simp; done) | (simp; omega)) ?_ | refine Fa _ (by first | exact Nat.le_refl _ | omega | (simp; done) | (simp; omega)) ?_ | refine Fs _ ?_)))), (by (repeat' refine And.intro ?_ ?_) <;> (repeat (first | with_reducible assumption | (simp; done) | (with_reducible first | refine Kd ?_ | refine Kn ?_ | refine Kb (by assumption) ?_) | ((with_reducible first | refine Kw ?_ ?_ | refine Fw ?_) <;> first | with_reducible rfl | (simp; done)) | (with_reducible first | refine Ka _ ?_ | refine Ks _ (by first | exact Nat.le_refl _ | omega | (simp; done) | (simp; omega)) ?_ | refine Fd ?_ | refine Fn ?_ | refine Fb (by assumption) (by first | exact Nat.le_refl _ | omega | (simp; done) | (simp; omega)) ?_ | refine Fa _ (by first | exact Nat.le_refl _ | omega | (simp; done) | (simp; omega)) ?_ | refine Fs _ ?_)))), (by (repeat' refine And.intro ?_ ?_) <;> (repeat (first | with_reducible assumption | (simp; done) | (with_reducible first | refine Kd ?_ | refine Kn ?_ | refine Kb (by assumption) ?_) | ((with_reducible first | refine Kw ?_ ?_ | refine Fw ?_) <;> first | with_reducible rfl | (simp; done)) | (with_reducible first | refine Ka _ ?_ | refine Ks _ (by first | exact Nat.le_refl _ | omega | (simp; done) | (simp; omega)) ?_ | refine Fd ?_ | refine Fn ?_ | refine Fb (by assumption) (by first | exact Nat.le_refl _ | omega | (simp; done) | (simp; omega)) ?_ | refine Fa _ (by first | exact Nat.le_refl _ | omega | (simp; done) | (simp; omega)) ?_ | refine Fs _ ?_))))⟩, (by repeat (first | (with_reducible first | exact Below.refl _ _ | assumption | refine Below.drew ?_) | ((with_reducible first | refine Lc ?_ ?_ _ | refine Ls ?_ ?_ _ | refine Lv (by assumption) ?_ ?_); · first | exact Nat.le_refl _ | omega | (dsimp only; omega) | (simp only [World.size_alloc, World.size_drew, World.heap_drewN]; omega) | (simp; omega)))), by simp [World.setCell]⟩ ?_
  rintro w2 ⟨hv2, hb2, hs2⟩
  have HV2 := Lib.hid hv2
  have HB2 := Lib.hid hb2
  have d2 := Kb hb2 d2
  obtain ⟨ox, hox⟩ : ∃ x, x = w1.heap.size := ⟨_, rfl⟩
  rw [← hox] at HV2 HB2 hs2 hs1
  rw [← hox]
  have HOX := Lib.hid hox
  clear hv2 hb2 hox
  go_wp2_with fail
  clear d2
  go_loopw [17] (fun i wr => ∃ (k : Nat) (vv : Value), k ≤ r.m ∧ i = .int .i64 k ∧ Hid (V3 wr ox (.slice bA' r.n bc') (.slice dA' r.d dc') vv ∧ wr.ownsRow (ox + 1) 101 4 vv (kpL r.V out k).length (wgL (kpL r.V out k))) ∧ Hid (Below ox w1 wr) ∧ ox + 1 ≤ wr.heap.size) (fun i _ => r.m - (intOf i).toNat)
  case atStart => exact ⟨0, _, Nat.zero_le _, rfl, Lib.hid ⟨HV2.out, World.ownsRow_nil _ _ _ _⟩, HB2, hs2⟩
  case round =>
    clear HV2 HB2 hs2
    obtain ⟨k, vv, hk, rfl, HV, HB, hsz⟩ := hrel
    obtain ⟨wo, rfl⟩ : ∃ wo, wo = wr := ⟨_, rfl⟩
    have HBW : Hid (Below W.heap.size W wo) := Lib.hid (HB1.out.trans (HB.out.mono (by omega)))
    have hsW := HBW.out.size
    by_cases hlt : k < r.m
    · have hkn : (k : Int) < (r.m : Int) := by omega
      have hk0 : (0 : Int) ≤ (k : Int) := by omega
      have ek : IntKind.i64.wrap ((k : Int) + 1) = (k : Int) + 1 := IntWalk.i64_in _ (by omega)
      obtain ⟨b, o, rfl, hbv, v0, v1, v2, v3⟩ := (H0.out.later HBW.out).v k hlt
      obtain ⟨X, hX⟩ : ∃ X, X = r.V k := ⟨_, rfl⟩
      rw [← hX] at v0 v1 v2 v3
      have HX := Lib.hid hX
      clear hX
      go_upto_region 6 with fail
      refine wp_world (fun W2 => (W2.cell? ⟨wo.heap.size, 0, none⟩ = some (.int .i64 X.f) ∧ W2.cell? ⟨wo.heap.size, 1, none⟩ = some (.int .i64 X.t) ∧ W2.cell? ⟨wo.heap.size, 2, none⟩ = some (.int .i64 X.p) ∧ W2.cell? ⟨wo.heap.size, 3, none⟩ = some (.int .i64 X.e)) ∧ Below wo.heap.size wo W2 ∧ wo.heap.size < W2.heap.size) ⟨(by (repeat' refine And.intro ?_ ?_) <;> (repeat (first | with_reducible assumption | (simp; done) | (with_reducible first | refine Kd ?_ | refine Kn ?_ | refine Kb (by assumption) ?_) | ((with_reducible first | refine Kw ?_ ?_ | refine Fw ?_) <;> first | with_reducible rfl | (simp; done)) | (with_reducible first | refine Ka _ ?_ | refine Ks _ (by first | exact Nat.le_refl _ | omega | (simp; done) | (simp; omega)) ?_ | refine Fd ?_ | refine Fn ?_ | refine Fb (by assumption) (by first | exact Nat.le_refl _ | omega | (simp; done) | (simp; omega)) ?_ | refine Fa _ (by first | exact Nat.le_refl _ | omega | (simp; done) | (simp; omega)) ?_ | refine Fs _ ?_)))), (by repeat (first | (with_reducible first | exact Below.refl _ _ | assumption | refine Below.drew ?_) | ((with_reducible first | refine Lc ?_ ?_ _ | refine Ls ?_ ?_ _ | refine Lv (by assumption) ?_ ?_); · first | exact Nat.le_refl _ | omega | (dsimp only; omega) | (simp only [World.size_alloc, World.size_drew, World.heap_drewN]; omega) | (simp; omega)))), by simp⟩ ?_
      rintro w3 ⟨hx, hb3, hs3⟩
      have HX3 := Lib.hid hx
      have hO3 := owns_later HV.out.2 hb3
      have hV3 := HV.out.1.same (hb3.block _ (by omega))
      have HV3 := Lib.hid (And.intro hV3 hO3)
      have HB3 := Lib.hid (HB.out.trans (hb3.mono (by omega)))
      have HI3 : Hid (IntRow w3 w3.heap.size A ll (numOf l)) := Lib.hid (by
        rw [HLL.out]
        exact (HLI.out.below (HBW.out.trans (hb3.mono hsW))).mono (Nat.le_trans hsW (Nat.le_of_lt hs3)))
      clear hx hb3 v0 v1 v2 v3 hO3 hV3 HV HB
      go_wp2_with fail
      refine ((show Calls Tryz.prog 59 #[.slice A ll c, .int .i64 (k : Int)] _ _ from by rw [HLL.out]; exact contains_any A c k l w3 (by rw [← HLL.out]; exact HI3.out) hl)).mono ?_
      rintro e w4 ⟨rfl, rfl⟩
      obtain ⟨q, hq⟩ : ∃ q, q = decide (k ∈ l) := ⟨_, rfl⟩
      rw [← hq]
      have hoq : out k = (q != wb) := by rw [HOUT.out, hq]; rfl
      clear hq
      cases hqw : (q == wb) with
      | false =>
        have HN : Hid (kpL r.V out (k + 1) = kpL r.V out k) := Lib.hid (kpL_yes (by rw [hoq]; unfold bne; rw [hqw]; rfl))
        clear hoq
        go_wp2_with fail
        refine ⟨?_, ?measure⟩
        case measure => simp [intOf]; omega
        exact ⟨k + 1, vv, by omega, by go_num, by rw [HN.out]; exact HV3, HB3, by omega⟩
      | true =>
        have HN : Hid (kpL r.V out (k + 1) = kpL r.V out k ++ [X]) := Lib.hid (by rw [HX.out]; exact kpL_no (by rw [hoq]; unfold bne; rw [hqw]; rfl))
        have hlen := kpL_len r.V out k
        have hv1 := HV3.out.2.lt
        obtain ⟨o0, o1, o2, f0, f1, f2⟩ := HV3.out.1
        obtain ⟨x0, x1, x2, x3⟩ := HX3.out
        obtain ⟨L, hL⟩ : ∃ L, L = (kpL r.V out k).length := ⟨_, rfl⟩
        have HL := Lib.hid hL
        rw [← hL] at hlen
        have HO3 : Hid (w4.ownsRow (ox + 1) 101 4 vv L (wgL (kpL r.V out k))) := Lib.hid (by rw [hL]; exact HV3.out.2)
        clear hoq hL
        go_upto_region 8 with (at_builtin; refine wpList_append_lies _ rfl (.tmp 28) (.tmp 30) 24 rfl (ox + 1) 101 i0 (.agg #[.int .i64 0, .int .i64 0, .int .i64 0, .int .i64 0]) 4 32 wgs_under hi hz0 hz1 hz2 rfl (by decide) vv L (wgL (kpL r.V out k)) rfl (HO3.out.alloc _) ⟨w4.heap.size, 0, none⟩ 1 1 (wgC X) rfl rfl (new_cells (cs := wgC X)) (wgC_one X) (by omega) (by unfold maxLen; omega) (by omega) (by simp; omega) (w4.heap.size + 1) (by simp) ?_; intro g cap w6 hown6 hgr6 hat6 hlt6; have s6 : w6.heap[ox]? = w4.heap[ox]? := (hgr6.block _ (by simp; omega) (fun e => by have := (hv1 _ e.symm).1; omega)).trans (Below.heap_alloc _ _ _ (by omega)); have a6 := cell_same s6 o2; have b6 := fro_same s6 f2)
        all_goals
          have hz6 := hgr6.size
          simp only [World.size_alloc] at hz6
          have hV6 : V3 w6 ox (.slice bA' r.n bc') (.slice dA' r.d dc') vv := HV3.out.1.same s6
          have HV6 : Hid (V3 (w6.setCell ⟨ox, 2, none⟩ (.slice (some ⟨g, 0, none⟩) (L + 1) cap)) ox (.slice bA' r.n bc') (.slice dA' r.d dc') (.slice (some ⟨g, 0, none⟩) (L + 1) cap) ∧ (w6.setCell ⟨ox, 2, none⟩ (.slice (some ⟨g, 0, none⟩) (L + 1) cap)).ownsRow (ox + 1) 101 4 (.slice (some ⟨g, 0, none⟩) (L + 1) cap) (kpL r.V out (k + 1)).length (wgL (kpL r.V out (k + 1)))) := Lib.hid ⟨hV6.set2 _, by
            rw [HN.out, wgL_snoc, List.length_append, ← HL.out]
            exact owns_sm hown6 (fun g h1 h2 => set_heap _ (by dsimp only; omega))⟩
          have HB6 : Hid (Below ox w1 (w6.setCell ⟨ox, 2, none⟩ (.slice (some ⟨g, 0, none⟩) (L + 1) cap))) := Lib.hid ((HB3.out.trans (Below.grown ((Below.refl _ w4).alloc (by omega) _) hgr6 (by simp; omega) (fun q hq => by have := (hv1 q hq).1; omega))).setCell (Nat.le_refl _) _)
          clear hown6 hgr6 hat6 hlt6 s6 a6 b6 o0 o1 o2 f0 f1 f2 x0 x1 x2 x3 hV6 HV3 HB3
          go_wp2_with fail
          refine ⟨?_, ?measure⟩
          case measure => simp [intOf]; omega
          exact ⟨k + 1, _, by omega, by go_num, HV6, HB6, by simp only [World.setCell, Array.size_modify]; omega⟩
    · obtain rfl : k = r.m := by omega
      have hge : ¬ (r.m : Int) < (r.m : Int) := by omega
      obtain ⟨A2, c2', rfl, how, hcl⟩ := OwnWg.of (P := fun j => (kpL r.V out r.m).getD j wg0) (by rw [← wgL_row]; exact HV.out.2)
      have hlen := kpL_len r.V out r.m
      have HR : Hid (RwRow wo wo.heap.size (r.kp out) bA' bc' dA' dc' A2 c2') := Lib.hid ⟨Nat.le_refl _, (HOB.out.later (by rw [← HOX.out]; exact HB.out)).row, (HOD.out.later (by rw [← HOX.out]; exact HB.out)).row, how.row, by show r.n ≤ 1000; omega, by show r.d ≤ 1000; have := HOK.out.d7; omega, by show (kpL r.V out r.m).length ≤ 1000; omega, hbc, hdc, hcl⟩
      have HKO := Lib.hid (Rw.kp_ok HOK.out out)
      obtain ⟨o0, o1, o2, -, -, -⟩ := HV.out.1
      obtain ⟨L, hL⟩ : ∃ L, L = (kpL r.V out r.m).length := ⟨_, rfl⟩
      have hLm : (r.kp out).m = L := by rw [hL]; rfl
      have HT := Lib.hid (Truth_any (r.kp out))
      have HTN := Lib.hid (Truth_no (r.kp out))
      rw [← hL] at o2
      clear hL how HV
      rcases Rw.torn_fit HKO.out with ⟨ht, hf⟩ | ⟨ht, hf⟩
      · have HTT := Lib.hid ht
        have HF := Lib.hid hf
        clear ht hf
        go_wp2_with fail
        refine (show Calls Tryz.prog 52 #[rwV bA' r.n bc' dA' r.d dc' A2 L c2'] wo _ from by
          have h := HT.out HF.out bA' dA' A2 bc' dc' c2' wo HR.out
          rw [hLm] at h
          exact h).mono ?_
        rintro e w7 ⟨A7, c7, rfl, -, hb7⟩
        have HB7 := Lib.hid (HBW.out.trans (hb7.mono hsW))
        clear hb7
        go_wp2_with fail
        go_ret
        exact ⟨by rw [HTT.out]; rfl, HB7.out⟩
      · have HTT := Lib.hid ht
        have HF := Lib.hid hf
        clear ht hf
        go_wp2_with fail
        refine (show Calls Tryz.prog 52 #[rwV bA' r.n bc' dA' r.d dc' A2 L c2'] wo _ from by
          have h := HTN.out (by rw [HF.out]; decide) bA' dA' A2 bc' dc' c2' wo HR.out
          rw [hLm, HF.out] at h
          exact h).mono ?_
        rintro e w7 ⟨rfl, hb7⟩
        have HB7 := Lib.hid (HBW.out.trans (hb7.mono hsW))
        clear hb7
        go_wp2_with fail
        go_ret
        exact ⟨by rw [HTT.out]; rfl, HB7.out⟩
end Go.Proofs.YtnnikeolgknfoaaGreat

set_option linter.unusedSimpArgs false
set_option linter.unusedVariables false
namespace Go.Proofs.YtnnikeolgknfoaaGreat
open Go.RowKit Go.Shelf

theorem below_cellsV {B b : Nat} {a : World} (hb : B ≤ b) : ∀ (vs : List Value) (o : Nat) (w : World), Below B a w → Below B a (w.setCells b o vs)
  | [], _, _, h => h
  | v :: r, o, w, h => below_cellsV hb r (o + 1) _ (h.setCell (p := ⟨b, o, none⟩) hb v)
set_option maxRecDepth 100000 in
set_option maxHeartbeats 4000000 in
theorem delete_any (l : List Nat) (k j : Nat) (hj : j = k + 1) (hk : k < l.length) (hl : l.length ≤ 1000) (g c lo : Nat) (hc : l.length ≤ c) (W : World) (ho : OwnInt W lo (some ⟨g, 0, none⟩) l.length (numOf l)) :
    Calls Tryz.prog 60 #[.slice (some ⟨g, 0, none⟩) l.length c, .int .i64 (k : Int), .int .i64 (j : Int)] W fun e W' => e = .returned (.slice (some ⟨g, 0, none⟩) (l.eraseIdx k).length c) ∧ IntRow W' W'.heap.size (some ⟨g, 0, none⟩) (l.eraseIdx k).length (numOf (l.eraseIdx k)) ∧ Below g W W' := by
  obtain ⟨i0, hi, hz0, hz1, hz2⟩ := info_parts infoInt
  obtain ⟨n, hn⟩ : ∃ n, n = l.length := ⟨_, rfl⟩
  have hcell : ∀ q, q < n → W.cell? ⟨g, q, none⟩ = some (.int .i64 (numOf l q)) ∧ W.frozen? ⟨g, q, none⟩ = false := fun q hq => by
    obtain ⟨b, h1, h2, h3, h4⟩ := ho q (by omega)
    injection h1 with h1
    injection h1 with h1
    subst h1
    exact ⟨h3, h4 q⟩
  have hglt : g < W.heap.size := World.block_lt_of_cell? W _ (hcell 0 (by omega)).1
  have hlen : (l.eraseIdx k).length = n - 1 := by rw [List.length_eraseIdx, if_pos hk, hn]
  have hget : ∀ q, q < n - 1 → numOf (l.eraseIdx k) q = if q < k then numOf l q else numOf l (q + 1) := fun q hq => by
    unfold numOf
    rw [List.getD_eq_getElem?_getD, List.getElem?_eraseIdx]
    split
    · rw [List.getD_eq_getElem?_getD]
    · rw [List.getD_eq_getElem?_getD]
  obtain ⟨news, hnews⟩ : ∃ news, news = (numCells (numOf l) n).drop j := ⟨_, rfl⟩
  have hnl : news.length = n - j := by rw [hnews, List.length_drop, numCells_len]
  have hng : ∀ t, t < n - j → news[t]? = some (.int .i64 (numOf l (j + t))) := fun t ht => by
    rw [hnews, List.getElem?_drop, numCells_get _ (by omega)]
  obtain ⟨A, hA, hsrc⟩ : ∃ A : Addr, (if c = j then some (⟨g, 0, none⟩ : Addr) else some ⟨g, j, none⟩) = some A ∧ Hid (∀ t u, news[t]? = some u → W.drew.cell? (A.add t) = some u) := by
    by_cases h : c = j
    · refine ⟨⟨g, 0, none⟩, by simp [h], fun t u hu => ?_⟩
      have h0 : news.length = 0 := by rw [hnl]; omega
      rw [List.length_eq_zero_iff.1 h0] at hu
      simp at hu
    · refine ⟨⟨g, j, none⟩, by simp [h], fun t u hu => ?_⟩
      have ht : t < n - j := by
        have := (List.getElem?_eq_some_iff.1 hu).1
        rwa [hnl] at this
      rw [hng t ht] at hu
      rw [Addr.add_lit]
      exact (hcell (j + t) (by omega)).1.trans hu
  have s1 : Hid (news.length = (n - j) * 1) := by rw [Nat.mul_one]; exact hnl
  have s2 : Hid (∀ u ∈ news, u.oneCell' = true) := fun u hu => by
    rw [hnews] at hu
    exact numCells_one _ _ u (List.mem_of_mem_drop hu)
  have s3 : Hid (∀ t, t < news.length → (W.drew.cell? ⟨g, 0 + k * 1 + t, none⟩).isSome = true ∧ W.drew.frozen? ⟨g, 0 + k * 1 + t, none⟩ = false) := fun t ht => by
    rw [hnl] at ht
    rw [Nat.mul_one, Nat.zero_add]
    have := hcell (k + t) (by omega)
    exact ⟨by show (W.cell? _).isSome = true; rw [this.1]; rfl, this.2⟩
  obtain ⟨W1, hW1⟩ : ∃ W1, W1 = W.drew.setCells g (0 + k * 1) news := ⟨_, rfl⟩
  have hthere : ∀ q, q < n → (W1.cell? ⟨g, q, none⟩).isSome = true := fun q hq => by
    rw [hW1]
    exact World.isSome_setCells g news _ _ _ (by show (W.cell? _).isSome = true; rw [(hcell q hq).1]; rfl)
  have hfz : ∀ q, q < n → W1.frozen? ⟨g, q, none⟩ = false := fun q hq => by
    rw [hW1, World.frozen?_setCells]
    exact (hcell q hq).2
  have hc1 : ∀ q, q < n - 1 → W1.cell? ⟨g, q, none⟩ = some (.int .i64 (numOf (l.eraseIdx k) q)) := fun q hq => by
    rw [hget q hq, hW1]
    by_cases hqk : q < k
    · rw [if_pos hqk, World.cell?_setCells_out _ _ _ _ _ (fun _ _ => .inl (by dsimp only; omega))]
      exact (hcell q (by omega)).1
    · rw [if_neg hqk]
      have h := World.cell?_setCells_in g news (0 + k * 1) W.drew (fun t ht => (s3 t ht).1) (q - k) (by rw [hnl]; omega)
      rw [show 0 + k * 1 + (q - k) = q by omega] at h
      rw [h, ← List.getElem?_eq_getElem, hng (q - k) (by omega), show j + (q - k) = q + 1 by omega]
  have hb1 : Below g W W1 := by
    rw [hW1]
    have hd : Below g W W.drew := (Below.refl g W).drew
    exact below_cellsV (Nat.le_refl g) news _ _ hd
  have hcl : ∀ ty, (Builtin.clear_ #[31] ty #[.slice (some ⟨g, n - 1, none⟩) 1 (c - (n - 1))]).run Tryz.prog W1 = .ok (.tuple #[]) (W1.setCells g (n - 1) (List.replicate 1 (.int .i64 0))) :=
    fun ty => Lib.run_clear_slice W1 31 3 ty (.int .i64 0) ints_under (fun w => by kernel_rfl) rfl rfl g (n - 1) 1 _ (by omega) (fun t ht => by rw [show n - 1 + t = n - 1 by omega]; exact hthere _ (by omega)) (fun t ht => by rw [show n - 1 + t = n - 1 by omega]; exact hfz _ (by omega))
  have HC1 := Lib.hid hc1
  have HB1 := Lib.hid hb1
  have hsz : W.heap.size ≤ W1.heap.size := hb1.size
  have HLN := Lib.hid hlen
  have hW : Hid (W1 = W.drew.setCells g (0 + k * 1) news) := hW1
  have hkc : k ≤ c := by omega
  have hjc : j ≤ c := by omega
  have hnk : ¬ n = k := by omega
  have hne : ((k : Int) == (j : Int)) = false := by rw [beq_eq_false_iff_ne]; omega
  have hkj : (k : Int) ≤ (j : Int) := by omega
  have hjn : (j : Int) ≤ (n : Int) := by omega
  have hnc : (n : Int) ≤ (c : Int) := by omega
  rw [← hn]
  have HJ := Lib.hid hj
  clear hj hW1 hb1 hc1 hthere hfz hget hng hnl hnews ho hcell hlen hn
  go_enter Tryz.func60, Tryz.ntmps60
  go_upto_region 5 with fail
  go_region_law (refine step_append_room rfl (.tmp 22) (.tmp 25) 31 rfl 3 i0 1 ints_under hi hz1 g 0 k c (by simp [Act.eval, Act.put]) A (n - j) (c - j) news (by simp [Act.eval, Act.put, hA]) s1.out hsrc.out s2.out (by omega) s3.out ?_; rw [← hW.out])
  have hkn : k + (n - j) = n - 1 := by have := HJ.out; omega
  rw [hkn]
  clear hkn
  have hn1 : ((n - 1 : Nat) : Int) ≤ (n : Int) := by omega
  have hn2 : n - (n - 1) = 1 := by have := HJ.out; omega
  have hn3 : n - 1 ≤ c := by omega
  have hn4 : ¬ c = n - 1 := by omega
  go_wp2_with fail
  go_ret
  have hf : ∀ q, q < n - 1 → (W1.setCells g (n - 1) [.int .i64 0]).cell? ⟨g, q, none⟩ = some (.int .i64 (numOf (l.eraseIdx k) q)) := fun q hq => by
    rw [World.cell?_setCells_out _ _ _ _ _ (fun _ _ => .inl (by dsimp only; omega))]
    exact HC1.out q hq
  have hbf : Below g W (W1.setCells g (n - 1) [.int .i64 0]) := below_cellsV (Nat.le_refl g) _ _ _ HB1.out
  refine ⟨by rw [HLN.out]; rfl, fun q hq => ?_, hbf⟩
  rw [HLN.out] at hq
  exact ⟨g, 0, rfl, Nat.lt_of_lt_of_le hglt hbf.size, by rw [Nat.zero_add]; exact hf q hq⟩
end Go.Proofs.YtnnikeolgknfoaaGreat
