/- Plain laws: rows of which one says more; one weighing more. No program here. -/
import Derived.Test.YtnnikeolgknfoaaP1
set_option linter.unusedSimpArgs false
set_option linter.unusedVariables false
namespace Go.Proofs.Ytnnikeolgknfoaa

theorem Rw.sumS_ok {r : Rw} {a b : Nat} (h : r.askErr a b = 0) : r.sumS a b = r.span a b := by unfold Rw.sumS; rw [if_pos h]; rfl
theorem Rw.fits_wg {r : Rw} (hr : r.ok) {X : Nat → Int} (h : r.fits X) {i : Nat} (hi : i < r.m) : (r.V i).p - (r.V i).e ≤ pre X ((r.V i).t.toNat + 1) - pre X (r.V i).f.toNat ∧ pre X ((r.V i).t.toNat + 1) - pre X (r.V i).f.toNat ≤ (r.V i).p + (r.V i).e := by
  have a := h ⟨true, i, true⟩ ⟨by show (0 : Int) ≤ (i : Int); omega, by simp only [if_true]; omega⟩
  have b := h ⟨true, i, false⟩ ⟨by show (0 : Int) ≤ (i : Int); omega, by simp only [if_true]; omega⟩
  have hv := hr.v i hi
  have h0 := hv.f
  have h1 := hv.ft
  have e : ((r.V i).t + 1).toNat = (r.V i).t.toNat + 1 := by omega
  unfold Rw.so Rw.b Rw.a Rw.to_ Rw.from_ Rw.num Rw.fa Rw.fb Rw.lo Rw.hi at a b
  simp [e] at a b
  omega
/-- what fits r' fits r -/
structure Rw.sub (r r' : Rw) : Prop where
  n : r.n = r'.n
  s : ∀ i, i < r.n → r.sp i = r'.sp i
  v : ∀ i, i < r.m → ∃ j, j < r'.m ∧ (r.V i).f = (r'.V j).f ∧ (r.V i).t = (r'.V j).t ∧ (r.V i).p - (r.V i).e ≤ (r'.V j).p - (r'.V j).e ∧ (r'.V j).p + (r'.V j).e ≤ (r.V i).p + (r.V i).e
theorem Rw.sub.fits {r r' : Rw} (h : r.sub r') (hr : r.ok) (hr' : r'.ok) {X : Nat → Int} (hX : r'.fits X) : r.fits X :=
  Rw.fits_of (fun i hi => by rw [h.s i hi]; exact Rw.fits_sp hr' hX (by rw [← h.n]; exact hi)) (fun i hi => by
    obtain ⟨j, hj, e1, e2, e3, e4⟩ := h.v i hi
    have := Rw.fits_wg hr' hX hj
    rw [e1, e2]
    omega) (fun i hi => by have := hr.v i hi; exact Int.le_trans this.f this.ft)
theorem Rw.sub.span {r r' : Rw} (h : r.sub r') (hr : r.ok) (hr' : r'.ok) (h0 : r.round = []) (h0' : r'.round = []) {a b : Nat} (ha : a ≤ b) (hb : b < r.n) : (r.span a b).a ≤ (r'.span a b).a ∧ (r'.span a b).b ≤ (r.span a b).b := by
  have hf := Rw.fin_nil hr h0
  have hf' := Rw.fin_nil hr' h0'
  have hn := h.n
  have x1 := hf.bound (h.fits hr hr' (hf'.fits_from hr' (s := a) (by omega))) (a := a) (b := b + 1) (by omega) (by omega)
  rw [pre_by, pre_by, hf'.z a (by omega)] at x1
  have x2 := hf.bound (h.fits hr hr' (hf'.fits_from hr' (s := b + 1) (by omega))) (a := b + 1) (b := a) (by omega) (by omega)
  rw [pre_by, pre_by, hf'.z (b + 1) (by omega)] at x2
  show -r.search.1.L (b + 1) a ≤ -r'.search.1.L (b + 1) a ∧ r'.search.1.L a (b + 1) ≤ r.search.1.L a (b + 1)
  omega
theorem Rw.sub.eq {r r' : Rw} (h : r.sub r') (k : r'.sub r) (hr : r.ok) (hr' : r'.ok) (h0 : r.round = []) (h0' : r'.round = []) {a b : Nat} (ha : a ≤ b) (hb : b < r.n) : r'.span a b = r.span a b := by
  have x := h.span hr hr' h0 h0' ha hb
  have y := k.span hr' hr h0' h0 ha (by rw [← h.n]; exact hb)
  obtain ⟨⟨p, q⟩, e⟩ : ∃ z, z = r.span a b := ⟨_, rfl⟩
  obtain ⟨⟨p', q'⟩, e'⟩ : ∃ z, z = r'.span a b := ⟨_, rfl⟩
  rw [← e, ← e'] at x y ⊢
  dsimp only at x y
  have h1 : p' = p := by omega
  have h2 : q' = q := by omega
  rw [h1, h2]
theorem Rw.ask_two {r : Rw} (hr : r.ok) {a b : Nat} (hab : a ≤ b) (hb : b < r.n) : (r.round = [] ∧ r.askErr a b = 0) ∨ r.askErr a b = 7 := by
  by_cases h : r.round = []
  · exact .inl ⟨h, Rw.ask_zero hr h hab hb⟩
  · right
    unfold Rw.askErr
    rw [if_neg (by rw [Rw.check_ok.2 hr]; decide)]
    have e : r.binsErr a b = 0 := by
      unfold Rw.binsErr
      rw [if_neg (by simp only [inB]; simp; omega), if_neg (by omega)]
    rw [if_neg (by rw [e]; decide), if_neg (by intro h2; exact h (List.length_eq_zero_iff.1 h2))]
/-- one weighing more -/
def Rw.more (r : Rw) (x : Wg) : Rw := { r with m := r.m + 1, V := fun j => if j = r.m then x else r.V j }
theorem Rw.more_ok {r : Rw} (hr : r.ok) (hm : r.m < 10) {x : Wg} (hx : x.ok r.n) : (r.more x).ok :=
  ⟨hr.n1, hr.n6, hr.d7, by show r.m + 1 ≤ 10; omega, hr.b, fun k hk => by
    show (if k = r.m then x else r.V k).ok r.n
    by_cases e : k = r.m
    · rw [if_pos e]; exact hx
    · rw [if_neg e]; exact hr.v k (by have : k < r.m + 1 := hk; omega), hr.k⟩
theorem Rw.sub_more (r : Rw) (x : Wg) : r.sub (r.more x) :=
  ⟨rfl, fun _ _ => rfl, fun i hi => ⟨i, by show i < r.m + 1; omega, by
    have e : (r.more x).V i = r.V i := by show (if i = r.m then x else r.V i) = r.V i; rw [if_neg (by omega)]
    rw [e]
    exact ⟨rfl, rfl, Int.le_refl _, Int.le_refl _⟩⟩⟩
end Go.Proofs.Ytnnikeolgknfoaa
