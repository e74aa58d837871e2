/- Plain words of the belt: hands, their forces, the rule. No program here. -/
import Derived.Test.YtmbkngfcbgbeiaaGreatP
set_option linter.unusedSimpArgs false
set_option linter.unusedVariables false
namespace Go.Proofs.YtmbkngfcbgbeiaaGreat

/-- a hand -/
structure Hnd where
  tk : Nat → Bool
  st : Int
  ti : Int
  sl : Int
  nr : Nat
  rs : Nat → Int
/-- it lets a tray pass -/
def anyN (f : Nat → Bool) : Nat → Bool
  | 0 => false
  | n + 1 => anyN f n || f n
def Hnd.lets (h : Hnd) (t : Nat) : Bool := anyN (fun k => decide (h.rs k = (t : Int))) h.nr
/-- the force behind so many trays, and how tired it is -/
def Hnd.fl (h : Hnd) : Nat → Int × Int
  | 0 => (0, 0)
  | t + 1 => if h.lets t then (0, 0) else (max 0 (h.st - h.ti * (h.fl t).2), (h.fl t).2 + 1)
def Hnd.force (h : Hnd) (t : Nat) : Int := (h.fl (t + 1)).1
/-- a hand's numbers are allowed -/
def Hnd.rng (h : Hnd) : Prop := (0 ≤ h.st ∧ h.st ≤ 40) ∧ (0 ≤ h.ti ∧ h.ti ≤ 10) ∧ 0 ≤ h.sl ∧ h.sl ≤ 100
theorem Hnd.fl_bd {h : Hnd} (hr : h.rng) : ∀ t, (0 ≤ (h.fl t).1 ∧ (h.fl t).1 ≤ 40) ∧ 0 ≤ (h.fl t).2 ∧ (h.fl t).2 ≤ (t : Int)
  | 0 => by simp [Hnd.fl]
  | t + 1 => by
    have ih := Hnd.fl_bd hr t
    unfold Hnd.fl
    split
    · simp; omega
    · have h1 : 0 ≤ h.ti * (h.fl t).2 := Int.mul_nonneg hr.2.1.1 ih.2.1
      have h2 := hr.1
      dsimp only
      omega
/-- a hand at a tray, behind so many materials: its force, the tray, its heap -/
def Hnd.take (h : Hnd) (f : Int) (L H : Nat → Int) : Nat → Int × (Nat → Int) × (Nat → Int)
  | 0 => (f, L, H)
  | m + 1 =>
    if h.tk m = false then h.take f L H m else
    ((h.take f L H m).1 - min (h.take f L H m).1 ((h.take f L H m).2.1 m),
     (fun k => if k = m then (h.take f L H m).2.1 m - min (h.take f L H m).1 ((h.take f L H m).2.1 m) else (h.take f L H m).2.1 k),
     (fun k => if k = m then (h.take f L H m).2.2 m + min (h.take f L H m).1 ((h.take f L H m).2.1 m) else (h.take f L H m).2.2 k))
/-- numbers of trays and heaps are allowed -/
def rowOk (c : Int) (L : Nat → Int) : Prop := ∀ m, m < 5 → 0 ≤ L m ∧ L m ≤ c
theorem Hnd.take_bd {h : Hnd} {f : Int} {L H : Nat → Int} {c d : Int} (hf : 0 ≤ f) (hL : rowOk c L) (hH : rowOk d H) : ∀ m, m ≤ 5 → (0 ≤ (h.take f L H m).1 ∧ (h.take f L H m).1 ≤ f) ∧ (∀ k, k < 5 → 0 ≤ (h.take f L H m).2.1 k ∧ (h.take f L H m).2.1 k ≤ L k) ∧ (∀ k, k < 5 → H k ≤ (h.take f L H m).2.2 k ∧ (h.take f L H m).2.2 k ≤ H k + L k) ∧ (∀ k, k < 5 → m ≤ k → (h.take f L H m).2.1 k = L k ∧ (h.take f L H m).2.2 k = H k)
  | 0, _ => by
    refine ⟨⟨hf, Int.le_refl _⟩, fun k hk => ⟨(hL k hk).1, Int.le_refl _⟩, fun k hk => ⟨Int.le_refl _, ?_⟩, fun k _ _ => ⟨rfl, rfl⟩⟩
    have := (hL k hk).1
    show H k ≤ H k + L k
    omega
  | m + 1, hm => by
    obtain ⟨h1, h2, h3, h4⟩ := Hnd.take_bd (h := h) hf hL hH m (by omega)
    unfold Hnd.take
    split
    · exact ⟨h1, h2, h3, fun k hk hkm => h4 k hk (by omega)⟩
    · have a := h2 m (by omega)
      have b := h3 m (by omega)
      have c := h4 m (by omega) (Nat.le_refl _)
      refine ⟨?_, fun k hk => ?_, fun k hk => ?_, fun k hk hkm => ?_⟩
      · dsimp only
        omega
      · dsimp only
        by_cases e : k = m
        · subst e
          rw [if_pos rfl]
          omega
        · rw [if_neg e]
          exact h2 k hk
      · dsimp only
        by_cases e : k = m
        · subst e
          rw [if_pos rfl]
          omega
        · rw [if_neg e]
          exact h3 k hk
      · dsimp only
        rw [if_neg (by omega), if_neg (by omega)]
        exact h4 k hk (by omega)
/-- a hand takes what it takes, whatever slips -/
theorem Hnd.take_same {h g : Hnd} (e : h.tk = g.tk) (f : Int) (L H : Nat → Int) : ∀ m, h.take f L H m = g.take f L H m
  | 0 => rfl
  | m + 1 => by
    unfold Hnd.take
    rw [Hnd.take_same e f L H m, e]
theorem Hnd.fl_same {h g : Hnd} (e1 : h.st = g.st) (e2 : h.ti = g.ti) (e3 : h.nr = g.nr) (e4 : h.rs = g.rs) : ∀ t, h.fl t = g.fl t
  | 0 => rfl
  | t + 1 => by
    unfold Hnd.fl Hnd.lets
    rw [Hnd.fl_same e1 e2 e3 e4 t, e1, e2, e3, e4]
/-- a tray behind so many hands: what is left of it, and all heaps -/
def handsAt (G : Nat → Hnd) (t : Nat) (L : Nat → Int) (H : Nat → Nat → Int) : Nat → (Nat → Int) × (Nat → Nat → Int)
  | 0 => (L, H)
  | k + 1 =>
    (((G k).take ((G k).force t) (handsAt G t L H k).1 ((handsAt G t L H k).2 k) 5).2.1,
     fun j => if j = k then ((G k).take ((G k).force t) (handsAt G t L H k).1 ((handsAt G t L H k).2 k) 5).2.2 else (handsAt G t L H k).2 j)
/-- all heaps behind so many trays -/
def heapsAt (G : Nat → Hnd) (nh : Nat) (T : Nat → Nat → Int) : Nat → Nat → Nat → Int
  | 0 => fun _ _ => 0
  | t + 1 => (handsAt G t (T t) (heapsAt G nh T t) nh).2
theorem handsAt_bd {G : Nat → Hnd} {t : Nat} {L : Nat → Int} {H : Nat → Nat → Int} {d : Int} (hG : ∀ k, (G k).rng) (hL : rowOk 60 L) (hH : ∀ k, rowOk d (H k)) : ∀ k, rowOk 60 (handsAt G t L H k).1 ∧ (∀ j, rowOk (d + 60) ((handsAt G t L H k).2 j)) ∧ ∀ j, k ≤ j → (handsAt G t L H k).2 j = H j
  | 0 => ⟨hL, fun j m hm => by have := hH j m hm; show 0 ≤ H j m ∧ H j m ≤ d + 60; omega, fun _ _ => rfl⟩
  | k + 1 => by
    obtain ⟨h1, h2, h3⟩ := handsAt_bd (t := t) hG hL hH k
    have hk := h3 k (Nat.le_refl _)
    have hf : 0 ≤ (G k).force t := (Hnd.fl_bd (hG k) (t + 1)).1.1
    obtain ⟨a1, a2, a3, _⟩ := Hnd.take_bd (h := G k) hf h1 (hH k) 5 (Nat.le_refl _)
    refine ⟨fun m hm => ?_, fun j m hm => ?_, fun j hj => ?_⟩
    · show 0 ≤ ((G k).take ((G k).force t) (handsAt G t L H k).1 ((handsAt G t L H k).2 k) 5).2.1 m ∧ ((G k).take ((G k).force t) (handsAt G t L H k).1 ((handsAt G t L H k).2 k) 5).2.1 m ≤ 60
      rw [hk]
      have b1 := a2 m hm
      have b2 := h1 m hm
      omega
    · show 0 ≤ (if j = k then ((G k).take ((G k).force t) (handsAt G t L H k).1 ((handsAt G t L H k).2 k) 5).2.2 else (handsAt G t L H k).2 j) m ∧ (if j = k then ((G k).take ((G k).force t) (handsAt G t L H k).1 ((handsAt G t L H k).2 k) 5).2.2 else (handsAt G t L H k).2 j) m ≤ d + 60
      by_cases e : j = k
      · rw [if_pos e, hk]
        have b1 := a3 m hm
        have b2 := h1 m hm
        have b3 := hH k m hm
        omega
      · rw [if_neg e]
        exact h2 j m hm
    · show (if j = k then _ else (handsAt G t L H k).2 j) = H j
      rw [if_neg (by omega)]
      exact h3 j (by omega)
theorem heapsAt_bd {G : Nat → Hnd} {nh : Nat} {T : Nat → Nat → Int} (hG : ∀ k, (G k).rng) (hT : ∀ t, rowOk 60 (T t)) : ∀ (t j : Nat), rowOk (60 * (t : Int)) (heapsAt G nh T t j)
  | 0, j => fun m hm => by show (0 : Int) ≤ 0 ∧ (0 : Int) ≤ 60 * ((0 : Nat) : Int); omega
  | t + 1, j => fun m hm => by
    have h := (handsAt_bd (t := t) (d := 60 * (t : Int)) hG (hT t) (heapsAt_bd (nh := nh) hG hT t) nh).2.1 j m hm
    show 0 ≤ (handsAt G t (T t) (heapsAt G nh T t) nh).2 j m ∧ (handsAt G t (T t) (heapsAt G nh T t) nh).2 j m ≤ 60 * ((t + 1 : Nat) : Int)
    have e : (60 : Int) * ((t + 1 : Nat) : Int) = 60 * (t : Int) + 60 := by omega
    rw [e]
    exact h
/-- heaps do not ask how often a hand slips -/
structure Alike (h g : Hnd) : Prop where
  tk : h.tk = g.tk
  st : h.st = g.st
  ti : h.ti = g.ti
  nr : h.nr = g.nr
  rs : h.rs = g.rs
theorem handsAt_same {G F : Nat → Hnd} (e : ∀ k, Alike (G k) (F k)) (t : Nat) (L : Nat → Int) (H : Nat → Nat → Int) : ∀ k, handsAt G t L H k = handsAt F t L H k
  | 0 => rfl
  | k + 1 => by
    have hf : (G k).force t = (F k).force t := by unfold Hnd.force; rw [Hnd.fl_same (e k).st (e k).ti (e k).nr (e k).rs]
    unfold handsAt
    rw [handsAt_same e t L H k, hf, Hnd.take_same (e k).tk]
theorem heapsAt_same {G F : Nat → Hnd} (e : ∀ k, Alike (G k) (F k)) (nh : Nat) (T : Nat → Nat → Int) : ∀ t, heapsAt G nh T t = heapsAt F nh T t
  | 0 => rfl
  | t + 1 => by
    unfold heapsAt
    rw [heapsAt_same e nh T t, handsAt_same e]
/-- how many pieces of a hand are wrong at most -/
def wrongN (n s : Int) : Int := (n * s + 99) / 100
theorem wrong_bd {n s : Int} (hn : 0 ≤ n) (hs : 0 ≤ s ∧ s ≤ 100) : 0 ≤ wrongN n s ∧ wrongN n s ≤ n := by
  have h1 := Int.mul_nonneg hn hs.1
  have h2 := Int.mul_le_mul_of_nonneg_left hs.2 hn
  unfold wrongN
  omega
theorem wrong_mono {n s r : Int} (hn : 0 ≤ n) (h : r ≤ s) : wrongN n r ≤ wrongN n s := by
  have h2 := Int.mul_le_mul_of_nonneg_left h hn
  unfold wrongN
  omega
end Go.Proofs.YtmbkngfcbgbeiaaGreat
