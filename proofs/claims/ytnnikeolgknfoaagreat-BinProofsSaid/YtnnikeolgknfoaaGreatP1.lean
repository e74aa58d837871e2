/- Plain laws: contents that fit; bounds of bins together, of their parts, and without weighings. No program here. -/
import Derived.Test.YtnnikeolgknfoaaGreatBn
set_option linter.unusedSimpArgs false
set_option linter.unusedVariables false
namespace Go.Proofs.YtnnikeolgknfoaaGreat

theorem pre_add (X : Nat → Int) (a : Nat) : ∀ k, pre X (a + k) - pre X a = sumN (fun j => X (a + j)) k
  | 0 => by simp [sumN]
  | k + 1 => by
    have h := pre_add X a k
    have e : pre X (a + k + 1) = pre X (a + k) + X (a + k) := rfl
    show pre X (a + k + 1) - pre X a = sumN (fun j => X (a + j)) k + X (a + k)
    rw [e, ← h]
    omega
/-- contents fit, said bin by bin and weighing by weighing -/
theorem Rw.fits_of {r : Rw} {X : Nat → Int} (h1 : ∀ i, i < r.n → (r.sp i).a ≤ X i ∧ X i ≤ (r.sp i).b) (h2 : ∀ i, i < r.m → (r.V i).p - (r.V i).e ≤ pre X ((r.V i).t.toNat + 1) - pre X (r.V i).f.toNat ∧ pre X ((r.V i).t.toNat + 1) - pre X (r.V i).f.toNat ≤ (r.V i).p + (r.V i).e) (hv : ∀ i, i < r.m → 0 ≤ (r.V i).t) : r.fits X := by
  rintro ⟨w, i, m⟩ hf
  unfold Rw.has at hf
  unfold Rw.so Rw.b Rw.a Rw.to_ Rw.from_ Rw.num Rw.fa Rw.fb Rw.lo Rw.hi
  cases w with
  | true =>
    simp only [if_true] at hf
    obtain ⟨j, rfl⟩ := Int.eq_ofNat_of_zero_le hf.1
    have h := h2 j (by omega)
    have hv := hv j (by omega)
    have e : ((r.V j).t + 1).toNat = (r.V j).t.toNat + 1 := by omega
    cases m <;> simp [e] <;> omega
  | false =>
    simp only [Bool.false_eq_true, if_false] at hf
    obtain ⟨j, rfl⟩ := Int.eq_ofNat_of_zero_le hf.1
    have h := h1 j (by omega)
    have e : ((j : Int) + 1).toNat = j + 1 := by omega
    have e2 : pre X (j + 1) = pre X j + X j := rfl
    cases m <;> simp [e, e2] <;> omega
theorem Rw.fits_sp {r : Rw} (hr : r.ok) {X : Nat → Int} (h : r.fits X) {i : Nat} (hi : i < r.n) : (r.sp i).a ≤ X i ∧ X i ≤ (r.sp i).b := by
  obtain ⟨p1, p2, p3, p4⟩ := bin_fact hr hi true
  obtain ⟨q1, q2, q3, q4⟩ := bin_fact hr hi false
  have a := h _ p1
  have b := h _ q1
  unfold Rw.so at a b
  rw [p2, p3, p4] at a
  rw [q2, q3, q4] at b
  have e2 : pre X (i + 1) = pre X i + X i := rfl
  simp only [if_true, Bool.false_eq_true, if_false] at a b
  omega
theorem Rw.fits_round {r : Rw} (hr : r.ok) {X : Nat → Int} (h : r.fits X) : r.round = [] := by
  rcases Rw.round_spec hr with ⟨_, h2, _⟩ | ⟨_, _, _, _, _, _, h4⟩
  · exact h2
  · exact (h4.no h).elim
theorem Rw.ask_zero {r : Rw} (hr : r.ok) (h : r.round = []) {a b : Nat} (hab : a ≤ b) (hb : b < r.n) : r.askErr a b = 0 := by
  unfold Rw.askErr
  rw [if_neg (by rw [Rw.check_ok.2 hr]; decide)]
  have e : r.binsErr a b = 0 := by
    unfold Rw.binsErr
    rw [if_neg (by simp only [inB]; simp; omega), if_neg (by omega)]
  rw [if_neg (by rw [e]; decide), if_pos (by rw [h]; rfl)]
theorem Rw.fit_zero {r : Rw} (hr : r.ok) (h : r.round = []) : r.fitErr = 0 := by
  unfold Rw.fitErr
  rw [if_neg (by rw [Rw.check_ok.2 hr]; decide), if_pos (by rw [h]; rfl)]
theorem Rw.fin_nil {r : Rw} (hr : r.ok) (h : r.round = []) : Fin r r.search.1.L r.search.1.F := Rw.fin_of hr (by rw [h]; rfl)
/-- sums of spans bound -/
theorem Fin.pos2 {r : Rw} {L : Nat → Nat → Int} {F : Nat → Nat → Fc} (h : Fin r L F) {f t : Nat} (hf : f ≤ r.n) (ht : t ≤ r.n) : 0 ≤ L f t + L t f := by
  have h1 := h.t f f t hf hf ht
  have h2 := h.z f hf
  omega
theorem Fin.sums {r : Rw} (hr : r.ok) {L : Nat → Nat → Int} {F : Nat → Nat → Fc} (h : Fin r L F) (a : Nat) : ∀ k, a + k ≤ r.n → L a (a + k) ≤ sumN (fun j => (r.sp (a + j)).b) k ∧ sumN (fun j => (r.sp (a + j)).a) k ≤ - L (a + k) a
  | 0, hk => by
    rw [Nat.add_zero, h.z a (by omega)]
    simp [sumN]
  | k + 1, hk => by
    have ih := Fin.sums hr h a k (by omega)
    obtain ⟨p1, p2, p3, p4⟩ := bin_fact hr (show a + k < r.n by omega) true
    obtain ⟨q1, q2, q3, q4⟩ := bin_fact hr (show a + k < r.n by omega) false
    have e1 := h.e _ p1
    have e2 := h.e _ q1
    rw [p2, p3, p4] at e1
    rw [q2, q3, q4] at e2
    simp only [if_true, Bool.false_eq_true, if_false] at e1 e2
    have t1 := h.t a (a + k + 1) (a + k) (by omega) (by omega) (by omega)
    have t2 := h.t (a + k + 1) a (a + k) (by omega) (by omega) (by omega)
    show L a (a + k + 1) ≤ sumN (fun j => (r.sp (a + j)).b) k + (r.sp (a + k)).b ∧ sumN (fun j => (r.sp (a + j)).a) k + (r.sp (a + k)).a ≤ - L (a + k + 1) a
    omega
/-- without weighings -/
def Rw.bare (r : Rw) : Rw := { r with m := 0 }
theorem Rw.bare_ok {r : Rw} (hr : r.ok) : r.bare.ok := ⟨hr.n1, hr.n6, hr.d7, by show 0 ≤ 10; omega, hr.b, fun k hk => absurd hk (by show ¬ k < 0; omega), hr.k⟩
theorem Rw.bare_sp (r : Rw) (i : Nat) : r.bare.sp i = r.sp i := rfl
theorem Rw.bare_fits {r : Rw} (hr : r.ok) {X : Nat → Int} (h : ∀ i, i < r.n → (r.sp i).a ≤ X i ∧ X i ≤ (r.sp i).b) : r.bare.fits X :=
  Rw.fits_of h (fun i hi => absurd hi (by show ¬ i < 0; omega)) (fun i hi => absurd hi (by show ¬ i < 0; omega))
theorem Rw.bare_round {r : Rw} (hr : r.ok) : r.bare.round = [] :=
  Rw.fits_round (Rw.bare_ok hr) (Rw.bare_fits hr (X := fun i => (r.sp i).b) (fun i hi => ⟨(Rw.sp_bd hr hi).2.1, Int.le_refl _⟩))
theorem Rw.bare_span {r : Rw} (hr : r.ok) {a k : Nat} (hk : a + k < r.n) : r.bare.span a (a + k) = ⟨sumN (fun j => (r.sp (a + j)).a) (k + 1), sumN (fun j => (r.sp (a + j)).b) (k + 1)⟩ := by
  have hf := Rw.fin_nil (Rw.bare_ok hr) (Rw.bare_round hr)
  have hs := hf.sums (Rw.bare_ok hr) a (k + 1) (by show a + (k + 1) ≤ r.n; omega)
  have b1 := hf.bound (Rw.bare_fits hr (X := fun i => (r.sp i).b) (fun i hi => ⟨(Rw.sp_bd hr hi).2.1, Int.le_refl _⟩)) (a := a) (b := a + (k + 1)) (by show a ≤ r.n; omega) (by show a + (k + 1) ≤ r.n; omega)
  have b2 := hf.bound (Rw.bare_fits hr (X := fun i => (r.sp i).a) (fun i hi => ⟨Int.le_refl _, (Rw.sp_bd hr hi).2.1⟩)) (a := a + (k + 1)) (b := a) (by show a + (k + 1) ≤ r.n; omega) (by show a ≤ r.n; omega)
  have e1 := pre_add (fun i => (r.sp i).b) a (k + 1)
  have e2 := pre_add (fun i => (r.sp i).a) a (k + 1)
  simp only [Rw.bare_sp] at hs
  unfold Rw.span
  rw [show a + k + 1 = a + (k + 1) by omega]
  rw [e1] at b1
  have h1 : -r.bare.search.1.L (a + (k + 1)) a = sumN (fun j => (r.sp (a + j)).a) (k + 1) := by omega
  have h2 : r.bare.search.1.L a (a + (k + 1)) = sumN (fun j => (r.sp (a + j)).b) (k + 1) := by omega
  rw [h1, h2]
/-- what the parts hold -/
theorem Fin.parts {r : Rw} {L : Nat → Nat → Int} {F : Nat → Nat → Fc} (h : Fin r L F) {a b c : Nat} (ha : a ≤ r.n) (hb : b ≤ r.n) (hc : c ≤ r.n) :
    L a b ≤ L a c + L c b ∧ -L c a + -L b c ≤ -L b a ∧ -L b a - L c b ≤ L a c ∧ -L c a ≤ L a b + L b c ∧ L a c ≤ L a b + L b c ∧ -L b a - L c b ≤ -L c a := by
  have t1 := h.t a b c ha hb hc
  have t2 := h.t b a c hb ha hc
  have t3 := h.t a c b ha hc hb
  have t4 := h.t c a b hc ha hb
  have p1 := h.pos2 ha hb
  have p2 := h.pos2 ha hc
  have p3 := h.pos2 hc hb
  omega
end Go.Proofs.YtnnikeolgknfoaaGreat
