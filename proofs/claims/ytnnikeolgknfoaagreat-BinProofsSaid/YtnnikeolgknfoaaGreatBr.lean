/- What the search finds: least numbers of walks, or a walk that contradicts. No program here. -/
import Derived.Test.YtnnikeolgknfoaaGreatBq
set_option linter.unusedSimpArgs false
set_option linter.unusedVariables false
namespace Go.Proofs.YtnnikeolgknfoaaGreat

theorem Inv.go {r : Rw} (hr : r.ok) : ∀ m, m ≤ r.n + 1 → (∃ N, phN (r.n + 1) (r.sk0, none) m = ((phN (r.n + 1) (r.sk0, none) m).1, none) ∧ Inv r m (phN (r.n + 1) (r.sk0, none) m).1 N) ∨
    ∃ (a k : Nat) (S : Sk) (N : Nat → Nat → Nat), phN (r.n + 1) (r.sk0, none) m = (S.mid k (seen (r.n + 1) a a), some (a, k)) ∧ Inv r k S N ∧ a ≤ r.n ∧ k ≤ r.n ∧ (∀ y, y < a → 0 ≤ S.L y k + S.L k y) ∧ S.L a k + S.L k a < 0
  | 0, _ => .inl ⟨_, rfl, Inv.start hr⟩
  | m + 1, hm => by
    rw [phN_succ]
    rcases Inv.go hr m (by omega) with ⟨N, h1, h2⟩ | ⟨a, k, S, N, h1, h2, h3, h4, h5, h6⟩
    · rw [h1]
      obtain ⟨S, hS⟩ : ∃ S, S = (phN (r.n + 1) (r.sk0, none) m).1 := ⟨_, rfl⟩
      rw [← hS] at h2 ⊢
      rcases rowN_mid (S := S) (P := r.n + 1) (k := m) (fun a ha => h2.z a (by omega)) (by omega) (r.n + 1) (Nat.le_refl _) with ⟨g1, g2⟩ | ⟨x, g1, g2, g3, g4⟩
      · rw [g2]
        exact .inl ⟨_, rfl, Inv.step hr (by omega) h2 (fun x hx => g1 x (by omega))⟩
      · exact .inr ⟨x, m, S, N, g4, h2, by omega, by omega, g2, g3⟩
    · rw [h1, rowN_done _ _ _ rfl]
      exact .inr ⟨a, k, S, N, rfl, h2, h3, h4, h5, h6⟩
/-- how the search ends -/
theorem Rw.search_end {r : Rw} (hr : r.ok) : (r.search.2 = none ∧ ∃ N, Inv r (r.n + 1) r.search.1 N) ∨
    ∃ (a k : Nat) (S : Sk) (N : Nat → Nat → Nat), r.search = (S.mid k (seen (r.n + 1) a a), some (a, k)) ∧ Inv r k S N ∧ a ≤ r.n ∧ k ≤ r.n ∧ (∀ y, y < a → 0 ≤ S.L y k + S.L k y) ∧ S.L a k + S.L k a < 0 := by
  rcases Inv.go hr (r.n + 1) (Nat.le_refl _) with ⟨N, h1, h2⟩ | h
  · exact .inl ⟨by unfold Rw.search; rw [h1], N, h2⟩
  · exact .inr h
/-- the row's numbers are least -/
structure Fin (r : Rw) (L : Nat → Nat → Int) (F : Nat → Nat → Fc) : Prop where
  z : ∀ a, a ≤ r.n → L a a = 0
  e : ∀ f, r.has f → L (r.a f) (r.b f) ≤ r.num f
  t : ∀ a b c, a ≤ r.n → b ≤ r.n → c ≤ r.n → L a b ≤ L a c + L c b
  w : ∀ a b, a ≤ r.n → b ≤ r.n → Chain r a b (wlk r F b 7 a) ∧ wsum r (wlk r F b 7 a) = L a b ∧ (wlk r F b 7 a).length ≤ r.n
  d : ∀ a b, a ≤ r.n → b ≤ r.n → -2100 ≤ L a b ∧ L a b ≤ 2100
/-- a bin's own fact -/
theorem bin_fact {r : Rw} (hr : r.ok) {i : Nat} (hi : i < r.n) (m : Bool) : r.has ⟨false, i, m⟩ ∧ r.a ⟨false, i, m⟩ = (if m then i else i + 1) ∧ r.b ⟨false, i, m⟩ = (if m then i + 1 else i) ∧ r.num ⟨false, i, m⟩ = (if m then (r.sp i).b else -(r.sp i).a) := by
  refine ⟨⟨by show (0 : Int) ≤ (i : Int); omega, by show (i : Int) < (r.n : Int); omega⟩, ?_, ?_, ?_⟩
  · unfold Rw.a Rw.from_ Rw.fa Rw.fb
    cases m <;> simp
  · unfold Rw.b Rw.to_ Rw.fa Rw.fb
    cases m <;> simp
  · unfold Rw.num Rw.hi Rw.lo
    cases m <;> simp
theorem Fin.of {r : Rw} (hr : r.ok) {S : Sk} {N : Nat → Nat → Nat} (h : Inv r (r.n + 1) S N) : Fin r S.L S.F := by
  have hn6 := hr.n6
  have hM := Md_le (r.n + 1) (by omega)
  have hfar : far = 1073741824 := rfl
  have tri : ∀ a b c, a ≤ r.n → b ≤ r.n → c ≤ r.n → S.L a b ≤ S.L a c + S.L c b := fun a b c ha hb hc => h.t a b c ha hb hc (by omega)
  have up : ∀ d a, a + d ≤ r.n → S.L a (a + d) ≤ 350 * (d : Int) ∧ S.L (a + d) a ≤ 0 := by
    intro d
    induction d with
    | zero =>
      intro a ha
      rw [Nat.add_zero, h.z a (by omega)]
      omega
    | succ d ih =>
      intro a ha
      have h1 := ih a (by omega)
      have hi : a + d < r.n := by omega
      obtain ⟨p1, p2, p3, p4⟩ := bin_fact hr hi true
      obtain ⟨q1, q2, q3, q4⟩ := bin_fact hr hi false
      have e1 := h.e _ p1
      have e2 := h.e _ q1
      rw [p2, p3, p4] at e1
      rw [q2, q3, q4] at e2
      have hs := Rw.sp_bd hr hi
      have t1 := tri a (a + d + 1) (a + d) (by omega) (by omega) (by omega)
      have t2 := tri (a + d + 1) a (a + d) (by omega) (by omega) (by omega)
      simp only [if_true, Bool.false_eq_true, if_false] at e1 e2
      show S.L a (a + d + 1) ≤ _ ∧ S.L (a + d + 1) a ≤ _
      omega
  have bd : ∀ a b, a ≤ r.n → b ≤ r.n → S.L a b ≤ 2100 := fun a b ha hb => by
    by_cases hab : a ≤ b
    · have := (up (b - a) a (by omega)).1
      rw [show a + (b - a) = b by omega] at this
      omega
    · have := (up (a - b) b (by omega)).2
      rw [show b + (a - b) = a by omega] at this
      omega
  have sm : ∀ a b, a ≤ r.n → b ≤ r.n → S.L a b ≤ Md (r.n + 1) := fun a b ha hb => by
    have := bd a b ha hb
    have := h.d a b ha hb
    omega
  refine ⟨h.z, h.e, tri, fun a b ha hb => ?_, fun a b ha hb => ?_⟩
  · have hl := h.len hr (Nat.le_refl _) ha hb (sm a b ha hb)
    obtain ⟨h1, h2, h3⟩ := h.path hr (Nat.le_refl _) hb (N a b) 7 a rfl (by omega) ha (sm a b ha hb)
    exact ⟨h1, h2, by omega⟩
  · have h1 := bd a b ha hb
    have h2 := bd b a hb ha
    have h3 := tri a a b ha ha hb
    rw [h.z a ha] at h3
    omega
/-- a walk that contradicts -/
structure Torn (r : Rw) (l : List Fc) : Prop where
  c : ∃ a, a ≤ r.n ∧ Chain r a a l
  s : wsum r l < 0
  n : l ≠ []
  m : l.length ≤ 12
theorem Rw.round_spec {r : Rw} (hr : r.ok) : (r.search.2 = none ∧ r.round = [] ∧ Fin r r.search.1.L r.search.1.F) ∨ (∃ a k, r.search.2 = some (a, k) ∧ a ≤ r.n ∧ k ≤ r.n ∧ (∃ l1 l2, r.round = l1 ++ l2 ∧ l1 = wlk r r.search.1.F k 7 a ∧ l2 = wlk r r.search.1.F a 7 k ∧ Chain r a k l1 ∧ Chain r k a l2 ∧ l1.length ≤ r.n ∧ l2.length ≤ r.n) ∧ Torn r r.round) := by
  rcases Rw.search_end hr with ⟨h1, N, h2⟩ | ⟨a, k, S, N, h1, h2, h3, h4, h5, h6⟩
  · exact .inl ⟨h1, by unfold Rw.round; rw [h1], Fin.of hr h2⟩
  · have hn6 := hr.n6
    have hM := Md_le k (by omega)
    have hfar : far = 1073741824 := rfl
    have hkk := h2.z k h4
    have d1 := h2.d a k h3 h4
    have d2 := h2.d k a h4 h3
    have l1 := h2.len hr (by omega) h3 h4 (by omega)
    have l2 := h2.len hr (by omega) h4 h3 (by omega)
    obtain ⟨p1, p2, p3⟩ := h2.path hr (by omega) h4 (N a k) 7 a rfl (by omega) h3 (by omega)
    obtain ⟨q1, q2, q3⟩ := h2.path hr (by omega) h3 (N k a) 7 k rfl (by omega) h4 (by omega)
    have e1 : wlk r r.search.1.F k 7 a = wlk r S.F k 7 a := wlk_congr (fun y => by rw [h1]; exact (Sk.mid_col hkk y).2.1) 7 a
    have e2 : wlk r r.search.1.F a 7 k = wlk r S.F a 7 k := by
      rw [h1]
      exact h2.back hr h4 h3 h5 (N k a) 7 k rfl h4 (.inl rfl) (by omega) (by rw [hkk]; omega)
    have e : r.round = wlk r r.search.1.F k 7 a ++ wlk r r.search.1.F a 7 k := by
      unfold Rw.round
      rw [show r.search.2 = some (a, k) by rw [h1]]
    have hs : wsum r r.round < 0 := by
      rw [e, wsum_append, e1, e2, p2, q2]
      omega
    refine .inr ⟨a, k, by rw [h1], h3, h4, ⟨_, _, e, rfl, rfl, by rw [e1]; exact p1, by rw [e2]; exact q1, by rw [e1, p3]; exact l1, by rw [e2, q3]; exact l2⟩, ⟨⟨a, h3, ?_⟩, hs, fun h => ?_, ?_⟩⟩
    · rw [e, e1, e2]
      exact p1.append q1
    · rw [h] at hs
      exact absurd hs (by simp [wsum])
    · rw [e, List.length_append, e1, e2, p3, q3]
      omega

/-- where a search stops it has ended -/
theorem stpN_stop {k a : Nat} {x : Sc} {m : Nat} (h : (stpN k a x m).2.isSome = true) : ∀ d, stpN k a x (m + d) = stpN k a x m
  | 0 => rfl
  | d + 1 => by
    rw [← Nat.add_assoc, stpN_succ, stpN_stop h d]
    exact stp_done _ _ _ _ h
theorem rowN_stop {P k : Nat} {x : Sc} {m : Nat} (h : (rowN P k x m).2.isSome = true) : ∀ d, rowN P k x (m + d) = rowN P k x m
  | 0 => rfl
  | d + 1 => by
    rw [← Nat.add_assoc, rowN_succ, rowN_stop h d]
    exact stpN_done _ _ _ h _
theorem phN_stop {P : Nat} {x : Sc} {m : Nat} (h : (phN P x m).2.isSome = true) : ∀ d, phN P x (m + d) = phN P x m
  | 0 => rfl
  | d + 1 => by
    rw [← Nat.add_assoc, phN_succ, phN_stop h d]
    exact rowN_done _ _ _ h _
theorem Rw.search_stop {r : Rw} {k a m : Nat} {y : Sc} (hk : k < r.n + 1) (ha : a < r.n + 1) (hm : m ≤ r.n + 1) (h : stpN k a (rowN (r.n + 1) k (phN (r.n + 1) (r.sk0, none) k) a) m = y) (hy : y.2.isSome = true) : r.search = y := by
  have h1 : stpN k a (rowN (r.n + 1) k (phN (r.n + 1) (r.sk0, none) k) a) (r.n + 1) = y := by
    have := stpN_stop (k := k) (a := a) (x := rowN (r.n + 1) k (phN (r.n + 1) (r.sk0, none) k) a) (m := m) (by rw [h]; exact hy) (r.n + 1 - m)
    rw [show m + (r.n + 1 - m) = r.n + 1 by omega] at this
    rw [this, h]
  have h2 : rowN (r.n + 1) k (phN (r.n + 1) (r.sk0, none) k) (a + 1) = y := by rw [rowN_succ, h1]
  have h3 : rowN (r.n + 1) k (phN (r.n + 1) (r.sk0, none) k) (r.n + 1) = y := by
    have := rowN_stop (P := r.n + 1) (k := k) (x := phN (r.n + 1) (r.sk0, none) k) (m := a + 1) (by rw [h2]; exact hy) (r.n + 1 - (a + 1))
    rw [show a + 1 + (r.n + 1 - (a + 1)) = r.n + 1 by omega] at this
    rw [this, h2]
  have h4 : phN (r.n + 1) (r.sk0, none) (k + 1) = y := by rw [phN_succ, h3]
  have := phN_stop (P := r.n + 1) (x := (r.sk0, none)) (m := k + 1) (by rw [h4]; exact hy) (r.n + 1 - (k + 1))
  rw [show k + 1 + (r.n + 1 - (k + 1)) = r.n + 1 by omega] at this
  unfold Rw.search
  rw [this, h4]
/-- a step that goes on leaves what was known, or writes one number down -/
theorem stp_same {S : Sk} {P k a b : Nat} (hk : S.L k k = 0) (hz : S.L a a = 0) (h : S.L a b ≤ S.L a k + S.L k b) : S.mid k (seen P a (b + 1)) = S.mid k (seen P a b) := by
  have h1 := stp_mid (S := S) (P := P) (k := k) (a := a) (b := b) hk hz
  have hno : ¬ (a = b ∧ S.L a k + S.L k a < 0) := by
    rintro ⟨rfl, h2⟩
    omega
  rw [if_neg hno] at h1
  have c4 : (S.mid k (seen P a b)).L a b = S.L a b := by
    show (if seen P a b a b = true ∧ _ then _ else _) = _
    rw [if_neg (by simp [seen])]
  unfold stp at h1
  rw [if_neg (by simp)] at h1
  dsimp only at h1
  rw [(Sk.mid_col hk a).1, (Sk.mid_col hk b).2.2, c4, if_pos h] at h1
  injection h1 with h1 _
  exact h1.symm
theorem stp_upd {S : Sk} {P k a b : Nat} (hk : S.L k k = 0) (hz : S.L a a = 0) (hab : a ≠ b) (h : ¬ S.L a b ≤ S.L a k + S.L k b) : S.mid k (seen P a (b + 1)) = (S.mid k (seen P a b)).upd a b (S.L a k + S.L k b) (S.F a k) := by
  have h1 := stp_mid (S := S) (P := P) (k := k) (a := a) (b := b) hk hz
  rw [if_neg (fun e => hab e.1)] at h1
  have c4 : (S.mid k (seen P a b)).L a b = S.L a b := by
    show (if seen P a b a b = true ∧ _ then _ else _) = _
    rw [if_neg (by simp [seen])]
  unfold stp at h1
  rw [if_neg (by simp)] at h1
  dsimp only at h1
  rw [(Sk.mid_col hk a).1, (Sk.mid_col hk b).2.2, c4, (Sk.mid_col hk a).2.1, if_neg h, if_neg hab] at h1
  injection h1 with h1 _
  exact h1.symm
theorem mid_ab {S : Sk} {P k a b : Nat} : (S.mid k (seen P a b)).L a b = S.L a b := by
  show (if seen P a b a b = true ∧ _ then _ else _) = _
  rw [if_neg (by simp [seen])]
theorem mid_00 {S : Sk} {P k : Nat} : S.mid k (seen P 0 0) = S := by
  refine Sk.ext (fun x y => ?_) (fun x y => ?_)
  · show (if seen P 0 0 x y = true ∧ _ then _ else _) = _
    rw [if_neg (by simp [seen])]
  · show (if seen P 0 0 x y = true ∧ _ then _ else _) = _
    rw [if_neg (by simp [seen])]

/-! ### contents -/
/-- what the bins before a place hold -/
def pre (X : Nat → Int) (p : Nat) : Int := sumN X p
/-- contents fit a fact, a row -/
def Rw.so (r : Rw) (X : Nat → Int) (f : Fc) : Prop := pre X (r.b f) - pre X (r.a f) ≤ r.num f
def Rw.fits (r : Rw) (X : Nat → Int) : Prop := ∀ f, r.has f → r.so X f
theorem Chain.le {r : Rw} {X : Nat → Int} (h : r.fits X) : ∀ {l : List Fc} {a b : Nat}, Chain r a b l → pre X b - pre X a ≤ wsum r l
  | [], a, b, hc => by
    have : a = b := hc
    subst this
    simp [wsum]
  | f :: l, a, b, hc => by
    obtain ⟨h1, h2, h3⟩ := hc
    have h4 := h f h1
    have h5 := Chain.le h h3
    unfold Rw.so at h4
    rw [h2] at h4
    simp only [wsum]
    omega
/-- a row that clashes: no contents fit -/
theorem Torn.no {r : Rw} {l : List Fc} (h : Torn r l) {X : Nat → Int} (hX : r.fits X) : False := by
  obtain ⟨a, _, hc⟩ := h.c
  have := Chain.le hX hc
  have := h.s
  omega
/-- each bound is a bound -/
theorem Fin.bound {r : Rw} {L : Nat → Nat → Int} {F : Nat → Nat → Fc} (h : Fin r L F) {X : Nat → Int} (hX : r.fits X) {a b : Nat} (ha : a ≤ r.n) (hb : b ≤ r.n) : pre X b - pre X a ≤ L a b := by
  obtain ⟨h1, h2, _⟩ := h.w a b ha hb
  rw [← h2]
  exact Chain.le hX h1
/-- contents by what is in front of each place -/
def byPre (of : Nat → Int) (i : Nat) : Int := of (i + 1) - of i
theorem pre_by (of : Nat → Int) : ∀ p, pre (byPre of) p = of p - of 0
  | 0 => by simp [pre, sumN]
  | p + 1 => by
    have := pre_by of p
    unfold pre at this ⊢
    simp only [sumN]
    rw [this]
    unfold byPre
    omega
theorem Fin.fits_from {r : Rw} (hr : r.ok) {L : Nat → Nat → Int} {F : Nat → Nat → Fc} (h : Fin r L F) {s : Nat} (hs : s ≤ r.n) : r.fits (byPre (fun p => L s p)) := fun f hf => by
  obtain ⟨h1, h2, _⟩ := Rw.ab_bd hr hf
  unfold Rw.so
  rw [pre_by, pre_by]
  have t := h.t s (r.b f) (r.a f) hs h2 h1
  have e := h.e f hf
  omega
theorem Fin.fits_to {r : Rw} (hr : r.ok) {L : Nat → Nat → Int} {F : Nat → Nat → Fc} (h : Fin r L F) {s : Nat} (hs : s ≤ r.n) : r.fits (byPre (fun p => - L p s)) := fun f hf => by
  obtain ⟨h1, h2, _⟩ := Rw.ab_bd hr hf
  unfold Rw.so
  rw [pre_by, pre_by]
  have t := h.t (r.a f) s (r.b f) h1 hs h2
  have e := h.e f hf
  omega
/-- least numbers are told by what they are -/
theorem Fin.uniq {r : Rw} (hr : r.ok) {L M : Nat → Nat → Int} {F G : Nat → Nat → Fc} (h : Fin r L F) (k : Fin r M G) {a b : Nat} (ha : a ≤ r.n) (hb : b ≤ r.n) : L a b = M a b := by
  have h1 := k.bound (h.fits_from hr ha) ha hb
  have h2 := h.bound (k.fits_from hr ha) ha hb
  rw [pre_by, pre_by] at h1 h2
  rw [h.z a ha] at h1
  rw [k.z a ha] at h2
  omega
end Go.Proofs.YtnnikeolgknfoaaGreat
