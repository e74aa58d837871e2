/- The reference: clashes, bins, Asked, Fitting, Sum. -/
import Derived.Test.YtnnikeolgknfoaaGreatP1
import Derived.Test.YtnnikeolgknfoaaGreatBb
import Derived.Test.YtnnikeolgknfoaaGreatBc
import Derived.Deep.AppendLies
import Derived.Test.YtnnikeolgknfoaaGreatBn
set_option linter.unusedSimpArgs false
set_option linter.unusedVariables false
namespace Go.Proofs.YtnnikeolgknfoaaGreat

def open8 : Int := 100000000
/-- a table in which a fact was laid -/
def tbPut (r : Rw) (T : Nat → Nat → Int) (f : Fc) : Nat → Nat → Int := fun x y => if x = r.a f ∧ y = r.b f ∧ r.num f < T x y then r.num f else T x y
def Rw.fk (r : Rw) (k : Nat) (m : Bool) : Fc := if k < r.n then ⟨false, (k : Int), m⟩ else ⟨true, ((k - r.n : Nat) : Int), m⟩
def Rw.tbN (r : Rw) : Nat → Nat → Nat → Int
  | 0 => fun _ _ => open8
  | k + 1 => tbPut r (tbPut r (r.tbN k) (r.fk k false)) (r.fk k true)
def Rw.tb (r : Rw) : Nat → Nat → Int := r.tbN (r.n + r.m)
theorem Rw.fk_has {r : Rw} {k : Nat} (hk : k < r.n + r.m) (m : Bool) : r.has (r.fk k m) := by
  unfold Rw.fk Rw.has
  by_cases h : k < r.n
  · rw [if_pos h]; simp; omega
  · rw [if_neg h]; simp; omega
theorem Rw.fk_of {r : Rw} {f : Fc} (hf : r.has f) : ∃ k, k < r.n + r.m ∧ f = r.fk k f.m := by
  obtain ⟨w, i, m⟩ := f
  unfold Rw.has at hf
  cases w with
  | true =>
    simp at hf
    refine ⟨r.n + i.toNat, by omega, ?_⟩
    unfold Rw.fk
    rw [if_neg (by omega)]
    simp
    omega
  | false =>
    simp at hf
    refine ⟨i.toNat, by omega, ?_⟩
    unfold Rw.fk
    rw [if_pos (by omega)]
    simp
    omega
structure TbOk (r : Rw) (done : Fc → Prop) (T : Nat → Nat → Int) : Prop where
  e : ∀ f, done f → T (r.a f) (r.b f) ≤ r.num f
  v : ∀ a b, T a b = open8 ∨ ∃ f, r.has f ∧ r.a f = a ∧ r.b f = b ∧ T a b = r.num f
theorem TbOk.put {r : Rw} {done : Fc → Prop} {T : Nat → Nat → Int} (h : TbOk r done T) {f : Fc} (hf : r.has f) : TbOk r (fun g => done g ∨ g = f) (tbPut r T f) := by
  constructor
  · intro g hg
    show (if r.a g = r.a f ∧ r.b g = r.b f ∧ r.num f < T (r.a g) (r.b g) then r.num f else T (r.a g) (r.b g)) ≤ r.num g
    rcases hg with hg | rfl
    · have := h.e g hg
      split
      · rename_i hc; omega
      · exact this
    · split
      · exact Int.le_refl _
      · rename_i hc
        have : ¬ r.num g < T (r.a g) (r.b g) := fun h1 => hc ⟨rfl, rfl, h1⟩
        omega
  · intro a b
    show ((if a = r.a f ∧ b = r.b f ∧ r.num f < T a b then r.num f else T a b) = open8) ∨ ∃ g, r.has g ∧ r.a g = a ∧ r.b g = b ∧ (if a = r.a f ∧ b = r.b f ∧ r.num f < T a b then r.num f else T a b) = r.num g
    by_cases hc : a = r.a f ∧ b = r.b f ∧ r.num f < T a b
    · rw [if_pos hc]
      exact .inr ⟨f, hf, hc.1.symm, hc.2.1.symm, rfl⟩
    · rw [if_neg hc]
      exact h.v a b
theorem TbOk.mono {r : Rw} {d d' : Fc → Prop} {T : Nat → Nat → Int} (h : TbOk r d T) (hd : ∀ f, d' f → d f) : TbOk r d' T := ⟨fun f hf => h.e f (hd f hf), h.v⟩
theorem Rw.tbN_ok {r : Rw} : ∀ k, k ≤ r.n + r.m → TbOk r (fun f => ∃ j m, j < k ∧ f = r.fk j m) (r.tbN k)
  | 0, _ => ⟨fun f hf => (by obtain ⟨j, m, hj, _⟩ := hf; omega), fun a b => .inl rfl⟩
  | k + 1, hk => by
    have ih := ((Rw.tbN_ok k (by omega)).put (Rw.fk_has (k := k) (by omega) false)).put (Rw.fk_has (r := r) (k := k) (by omega) true)
    refine ih.mono (fun f hf => ?_)
    obtain ⟨j, m, hj, e⟩ := hf
    by_cases hjk : j < k
    · exact .inl (.inl ⟨j, m, hjk, e⟩)
    · obtain rfl : j = k := by omega
      cases m with
      | true => exact .inr e
      | false => exact .inl (.inr e)
theorem Rw.tb_ok {r : Rw} : TbOk r r.has r.tb := (Rw.tbN_ok (r.n + r.m) (Nat.le_refl _)).mono (fun f hf => by
  obtain ⟨k, hk, e⟩ := Rw.fk_of hf
  exact ⟨k, f.m, hk, e⟩)
theorem TbOk.bd {r : Rw} (hr : r.ok) {d : Fc → Prop} {T : Nat → Nat → Int} (h : TbOk r d T) (a b : Nat) : -3100 ≤ T a b ∧ T a b ≤ open8 ∧ (T a b = open8 ∨ T a b ≤ 3100) := by
  have ho : open8 = 100000000 := rfl
  rcases h.v a b with h1 | ⟨f, h1, _, _, h2⟩
  · omega
  · have := Rw.ab_bd hr h1
    omega

/-! ### the least number over what was not met -/
def metP (M : Nat → Bool) (a : Nat) : Nat → Bool := fun x => if x = a then true else M x
def lstN (T : Nat → Nat → Int) (b a : Nat) (M : Nat → Bool) (g : Nat → Int) : Nat → Int
  | 0 => T a b
  | c + 1 => if c = b ∨ M c = true ∨ T a c = open8 then lstN T b a M g c else if T a c + g c < lstN T b a M g c then T a c + g c else lstN T b a M g c
def lst (T : Nat → Nat → Int) (N b : Nat) : Nat → Nat → (Nat → Bool) → Int
  | 0, a, _ => T a b
  | u + 1, a, M => lstN T b a (metP M a) (fun c => lst T N b u c (metP M a)) N
theorem lstN_le0 {T : Nat → Nat → Int} {b a : Nat} {M : Nat → Bool} {g : Nat → Int} : ∀ k, lstN T b a M g k ≤ T a b
  | 0 => Int.le_refl _
  | c + 1 => by
    have ih := lstN_le0 (T := T) (b := b) (a := a) (M := M) (g := g) c
    unfold lstN
    split
    · exact ih
    · split <;> omega
theorem lstN_le {T : Nat → Nat → Int} {b a : Nat} {M : Nat → Bool} {g : Nat → Int} {c : Nat} (hc : ¬ (c = b ∨ M c = true ∨ T a c = open8)) : ∀ k, c < k → lstN T b a M g k ≤ T a c + g c
  | 0, h => absurd h (by omega)
  | k + 1, h => by
    unfold lstN
    by_cases e : c = k
    · subst e
      rw [if_neg hc]
      split <;> omega
    · have ih := lstN_le (g := g) hc k (by omega)
      split
      · exact ih
      · split <;> omega
theorem lstN_or {T : Nat → Nat → Int} {b a : Nat} {M : Nat → Bool} {g : Nat → Int} : ∀ k, lstN T b a M g k = T a b ∨ ∃ c, c < k ∧ T a c ≠ open8 ∧ lstN T b a M g k = T a c + g c
  | 0 => .inl rfl
  | k + 1 => by
    have ih := lstN_or (T := T) (b := b) (a := a) (M := M) (g := g) k
    have ih' : lstN T b a M g k = T a b ∨ ∃ c, c < k + 1 ∧ T a c ≠ open8 ∧ lstN T b a M g k = T a c + g c := by
      rcases ih with h | ⟨c, h1, h2⟩
      · exact .inl h
      · exact .inr ⟨c, by omega, h2⟩
    unfold lstN
    split
    · exact ih'
    · rename_i hc
      split
      · exact .inr ⟨k, by omega, fun e => hc (.inr (.inr e)), rfl⟩
      · exact ih'
theorem lst_chain {r : Rw} (hr : r.ok) {d : Fc → Prop} {T : Nat → Nat → Int} (h : TbOk r d T) (N b : Nat) : ∀ (u a : Nat) (M : Nat → Bool), (∃ l, Chain r a b l ∧ l ≠ [] ∧ wsum r l = lst T N b u a M) ∨ open8 - 3100 * (u : Int) ≤ lst T N b u a M := by
  have base : ∀ (u a : Nat), (∃ l, Chain r a b l ∧ l ≠ [] ∧ wsum r l = T a b) ∨ open8 - 3100 * (u : Int) ≤ T a b := fun u a => by
    rcases h.v a b with h1 | ⟨f, h1, h2, h3, h4⟩
    · exact .inr (by omega)
    · exact .inl ⟨[f], ⟨h1, h2, h3⟩, by simp, by rw [h4]; simp [wsum]⟩
  intro u
  induction u with
  | zero => exact fun a M => base 0 a
  | succ u ih =>
    intro a M
    show (∃ l, Chain r a b l ∧ l ≠ [] ∧ wsum r l = lstN T b a (metP M a) (fun c => lst T N b u c (metP M a)) N) ∨ open8 - 3100 * ((u + 1 : Nat) : Int) ≤ lstN T b a (metP M a) (fun c => lst T N b u c (metP M a)) N
    rcases lstN_or (T := T) (b := b) (a := a) (M := metP M a) (g := fun c => lst T N b u c (metP M a)) N with e | ⟨c, hc, hne, e⟩
    · rw [e]
      exact base (u + 1) a
    · rw [e]
      rcases h.v a c with h1 | ⟨f, h1, h2, h3, h4⟩
      · exact absurd h1 hne
      · rcases ih c (metP M a) with ⟨l, g1, g2, g3⟩ | g
        · exact .inl ⟨f :: l, ⟨h1, h2, by rw [h3]; exact g1⟩, by simp, by rw [h4, ← g3]; rfl⟩
        · refine .inr ?_
          have := Rw.ab_bd hr h1
          rw [h4]
          omega
theorem lst_bd {r : Rw} (hr : r.ok) {d : Fc → Prop} {T : Nat → Nat → Int} (h : TbOk r d T) (N b : Nat) : ∀ (u a : Nat) (M : Nat → Bool), -3100 * ((u : Int) + 1) ≤ lst T N b u a M ∧ lst T N b u a M ≤ open8 := by
  intro u
  induction u with
  | zero =>
    intro a M
    have := h.bd hr a b
    show -3100 * ((0 : Nat) + 1 : Int) ≤ T a b ∧ T a b ≤ open8
    omega
  | succ u ih =>
    intro a M
    have hb := h.bd hr a b
    have h0 := lstN_le0 (T := T) (b := b) (a := a) (M := metP M a) (g := fun c => lst T N b u c (metP M a)) N
    show -3100 * (((u + 1 : Nat) : Int) + 1) ≤ lstN T b a (metP M a) (fun c => lst T N b u c (metP M a)) N ∧ lstN T b a (metP M a) (fun c => lst T N b u c (metP M a)) N ≤ open8
    rcases lstN_or (T := T) (b := b) (a := a) (M := metP M a) (g := fun c => lst T N b u c (metP M a)) N with e | ⟨c, hc, hne, e⟩
    · rw [e] at h0 ⊢
      omega
    · have hc := h.bd hr a c
      have hi := ih c (metP M a)
      rw [e] at h0 ⊢
      omega
def cntM (M : Nat → Bool) : Nat → Nat
  | 0 => 0
  | k + 1 => cntM M k + if M k = true then 0 else 1
theorem cntM_put {M : Nat → Bool} {a : Nat} (ha : M a = false) : ∀ k, cntM (metP M a) k + (if a < k then 1 else 0) = cntM M k
  | 0 => by simp [cntM]
  | k + 1 => by
    have ih := cntM_put ha k
    unfold cntM
    by_cases e : k = a
    · subst e
      rw [if_neg (by omega)] at ih
      rw [if_pos (by simp [metP]), if_pos (by omega), if_neg (by rw [ha]; decide)]
      omega
    · have hm : metP M a k = M k := if_neg e
      rw [hm]
      by_cases h1 : a < k
      · rw [if_pos h1] at ih; rw [if_pos (show a < k + 1 by omega)]; omega
      · rw [if_neg h1] at ih; rw [if_neg (show ¬ a < k + 1 by omega)]; omega
theorem lst_le {r : Rw} (hr : r.ok) {T : Nat → Nat → Int} (h : TbOk r r.has T) (b : Nat) : ∀ (l : List Fc) (u a : Nat) (M : Nat → Bool), Chain r a b l → l ≠ [] → (l.map r.a).Nodup → (∀ f, f ∈ l → M (r.a f) = false) → (∀ f, f ∈ l.tail → r.a f ≠ b) → cntM M (r.n + 1) ≤ u → lst T (r.n + 1) b u a M ≤ wsum r l
  | [], _, _, _, _, hne, _, _, _, _ => absurd rfl hne
  | f :: t, u, a, M, hc, _, hnd, hM, hb, hu => by
    obtain ⟨hf, ha, hct⟩ := hc
    have hbd := Rw.ab_bd hr hf
    have hMa : M a = false := by rw [← ha]; exact hM f (by simp)
    have hcnt := cntM_put hMa (r.n + 1)
    rw [if_pos (by omega)] at hcnt
    have he := h.e f hf
    rw [ha] at he
    cases u with
    | zero => omega
    | succ u =>
      show lstN T b a (metP M a) (fun c => lst T (r.n + 1) b u c (metP M a)) (r.n + 1) ≤ r.num f + wsum r t
      cases t with
      | nil =>
        have hcb : r.b f = b := hct
        have h0 := lstN_le0 (T := T) (b := b) (a := a) (M := metP M a) (g := fun c => lst T (r.n + 1) b u c (metP M a)) (r.n + 1)
        rw [hcb] at he
        show _ ≤ r.num f + 0
        omega
      | cons g t =>
        have hga : r.a g = r.b f := hct.2.1
        have hcb : r.b f ≠ b := by rw [← hga]; exact hb g (by simp)
        have hnd' := List.nodup_cons.1 hnd
        have hca : r.b f ≠ a := by
          rw [← hga, ← ha]
          intro e
          exact hnd'.1 (by rw [← e]; simp)
        have hMc : metP M a (r.b f) = false := by
          show (if r.b f = a then true else M (r.b f)) = false
          rw [if_neg hca, ← hga]
          exact hM g (by simp)
        have ho : open8 = 100000000 := rfl
        have hle := lstN_le (T := T) (b := b) (a := a) (M := metP M a) (g := fun c => lst T (r.n + 1) b u c (metP M a)) (c := r.b f) (by
          rintro (e | e | e)
          · exact hcb e
          · rw [hMc] at e; cases e
          · omega) (r.n + 1) (by omega)
        have ih := lst_le hr h b (g :: t) u (r.b f) (metP M a) hct (by simp) hnd'.2 (fun x hx => by
          show (if r.a x = a then true else M (r.a x)) = false
          rw [if_neg (fun e => hnd'.1 (by
            show r.a f ∈ _
            rw [ha, ← e]
            exact List.mem_map_of_mem hx))]
          exact hM x (by simp only [List.mem_cons] at hx ⊢; exact .inr hx)) (fun x hx => hb x (by simp only [List.tail_cons, List.mem_cons] at hx ⊢; exact .inr hx)) (by omega)
        omega

/-! ### walks that are at no place twice -/
structure Simp (r : Rw) (b : Nat) (l : List Fc) : Prop where
  n : (l.map r.a).Nodup
  t : ∀ f, f ∈ l.tail → r.a f ≠ b
theorem Chain.split {r : Rw} : ∀ {p s : List Fc} {x y : Nat}, Chain r x y (p ++ s) → ∃ z, Chain r x z p ∧ Chain r z y s
  | [], s, x, y, h => ⟨x, rfl, h⟩
  | f :: p, s, x, y, h => by
    obtain ⟨z, h1, h2⟩ := Chain.split h.2.2
    exact ⟨z, ⟨h.1, h.2.1, h1⟩, h2⟩
theorem first_at {r : Rw} {a : Nat} : ∀ {q : List Fc}, (∃ f, f ∈ q ∧ r.a f = a) → ∃ p g s, q = p ++ g :: s ∧ r.a g = a ∧ ∀ f, f ∈ p → r.a f ≠ a
  | [], h => by obtain ⟨f, hf, _⟩ := h; cases hf
  | x :: q, h => by
    by_cases e : r.a x = a
    · exact ⟨[], x, q, rfl, e, fun f hf => by cases hf⟩
    · obtain ⟨p, g, s, h1, h2, h3⟩ := first_at (q := q) (by
        obtain ⟨f, hf, hfa⟩ := h
        rcases List.mem_cons.1 hf with rfl | hf
        · exact absurd hfa e
        · exact ⟨f, hf, hfa⟩)
      refine ⟨x :: p, g, s, by rw [h1]; rfl, h2, fun f hf => ?_⟩
      rcases List.mem_cons.1 hf with rfl | hf
      · exact e
      · exact h3 f hf
theorem simp_or {r : Rw} : ∀ (l : List Fc) (a b : Nat), Chain r a b l → l ≠ [] → (∃ x q, Chain r x x q ∧ q ≠ [] ∧ Simp r x q ∧ wsum r q < 0) ∨ ∃ q, Chain r a b q ∧ q ≠ [] ∧ Simp r b q ∧ wsum r q ≤ wsum r l
  | [], _, _, _, h => absurd rfl h
  | [f], a, b, hc, _ => .inr ⟨[f], hc, by simp, ⟨by simp, fun g hg => by cases hg⟩, Int.le_refl _⟩
  | f :: g :: t, a, b, hc, _ => by
    obtain ⟨hf, ha, hct⟩ := hc
    rcases simp_or (g :: t) (r.b f) b hct (by simp) with h | ⟨q, h1, h2, h3, h4⟩
    · exact .inl h
    · have hw : wsum r (f :: g :: t) = r.num f + wsum r (g :: t) := rfl
      by_cases hcb : r.b f = b
      · by_cases hs : wsum r q < 0
        · exact .inl ⟨b, q, hcb ▸ h1, h2, h3, hs⟩
        · refine .inr ⟨[f], ⟨hf, ha, hcb⟩, by simp, ⟨by simp, fun g hg => by cases hg⟩, ?_⟩
          show r.num f + 0 ≤ _
          rw [hw]
          omega
      · by_cases hin : ∃ x, x ∈ q ∧ r.a x = a
        · obtain ⟨p, g', s, e, hg, hp⟩ := first_at hin
          subst e
          obtain ⟨z, c1, c2⟩ := Chain.split h1
          have hz : z = a := by rw [← hg]; exact c2.2.1.symm
          subst hz
          have hws := wsum_append r p (g' :: s)
          have hnd : ((p.map r.a) ++ ((g' :: s).map r.a)).Nodup := by have := h3.n; rwa [List.map_append] at this
          obtain ⟨n1, n2, n3⟩ := List.nodup_append.1 hnd
          by_cases hs : wsum r (f :: p) < 0
          · refine .inl ⟨z, f :: p, ⟨hf, ha, c1⟩, by simp, ⟨?_, fun x hx => hp x (by simpa using hx)⟩, hs⟩
            rw [List.map_cons, List.nodup_cons]
            refine ⟨fun hm => ?_, n1⟩
            obtain ⟨x, hx, hxa⟩ := List.mem_map.1 hm
            exact hp x hx (by rw [hxa, ha])
          · refine .inr ⟨g' :: s, c2, by simp, ⟨n2, fun x hx => ?_⟩, ?_⟩
            · refine h3.t x ?_
              cases p with
              | nil => exact hx
              | cons y p => simp only [List.cons_append, List.tail_cons] at hx ⊢; exact List.mem_append_right _ (List.mem_cons_of_mem _ hx)
            · have : wsum r (f :: p) = r.num f + wsum r p := rfl
              rw [hw]
              omega
        · refine .inr ⟨f :: q, ⟨hf, ha, h1⟩, by simp, ⟨?_, fun x hx => ?_⟩, ?_⟩
          · rw [List.map_cons, List.nodup_cons]
            refine ⟨fun hm => ?_, h3.n⟩
            obtain ⟨x, hx, hxa⟩ := List.mem_map.1 hm
            exact hin ⟨x, hx, by rw [hxa, ha]⟩
          · rw [List.tail_cons] at hx
            cases q with
            | nil => cases hx
            | cons y q =>
              rcases List.mem_cons.1 hx with rfl | hx
              · rw [h1.2.1]; exact hcb
              · exact h3.t x hx
          · show r.num f + wsum r q ≤ _
            rw [hw]
            omega
theorem cntM_zero : ∀ k, cntM (fun _ => false) k = k
  | 0 => rfl
  | k + 1 => by
    have := cntM_zero k
    unfold cntM
    rw [this]
    simp
def Rw.walkR (r : Rw) (a b : Nat) : Int := lst r.tb (r.n + 1) b 7 a (fun _ => false)
theorem Rw.walk_le {r : Rw} (hr : r.ok) {a b : Nat} {l : List Fc} (hc : Chain r a b l) (hne : l ≠ []) (hs : Simp r b l) : r.walkR a b ≤ wsum r l :=
  lst_le hr Rw.tb_ok b l 7 a _ hc hne hs.n (fun _ _ => rfl) hs.t (by rw [cntM_zero]; have := hr.n6; omega)
/-- without a clash it is the least number -/
theorem Rw.walk_fin {r : Rw} (hr : r.ok) (h : r.round = []) {a b : Nat} (ha : a ≤ r.n) (hb : b ≤ r.n) (hab : a ≠ b) : r.walkR a b = r.search.1.L a b := by
  have hF := Rw.fin_nil hr h
  obtain ⟨w1, w2, w3⟩ := hF.w a b ha hb
  have hX := hF.fits_from hr ha
  have hd := hF.d a b ha hb
  have hle : r.walkR a b ≤ r.search.1.L a b := by
    rcases simp_or _ a b w1 (fun e => by rw [e] at w1; exact hab w1) with ⟨x, q, q1, q2, q3, q4⟩ | ⟨q, q1, q2, q3, q4⟩
    · have := Chain.le hX q1
      omega
    · have := Rw.walk_le hr q1 q2 q3
      omega
  have ho : open8 = 100000000 := rfl
  rcases lst_chain hr Rw.tb_ok (r.n + 1) b 7 a (fun _ => false) with ⟨l, l1, l2, l3⟩ | l
  · have hc := Chain.le hX l1
    rw [pre_by, pre_by, hF.z a ha] at hc
    have : r.walkR a b = wsum r l := l3.symm
    omega
  · have : r.walkR a b = lst r.tb (r.n + 1) b 7 a (fun _ => false) := rfl
    omega
/-- a row clashes where a place has a round that is less than nothing -/
theorem Rw.walk_torn {r : Rw} (hr : r.ok) : (∃ a, a ≤ r.n ∧ r.walkR a a < 0) ↔ r.round ≠ [] := by
  constructor
  · rintro ⟨a, ha, hlt⟩ h
    have hX := (Rw.fin_nil hr h).fits_from hr (s := 0) (by omega)
    have ho : open8 = 100000000 := rfl
    rcases lst_chain hr Rw.tb_ok (r.n + 1) a 7 a (fun _ => false) with ⟨l, l1, l2, l3⟩ | l
    · have hc := Chain.le hX l1
      have : r.walkR a a = wsum r l := l3.symm
      omega
    · have : r.walkR a a = lst r.tb (r.n + 1) a 7 a (fun _ => false) := rfl
      omega
  · intro h
    rcases Rw.round_spec hr with ⟨-, h1, -⟩ | ⟨_, _, -, -, -, -, hT⟩
    · exact absurd h1 h
    · obtain ⟨a, ha, hc⟩ := hT.c
      have hs := hT.s
      have fin : ∀ x q, Chain r x x q → q ≠ [] → Simp r x q → wsum r q < 0 → ∃ a, a ≤ r.n ∧ r.walkR a a < 0 := fun x q q1 q2 q3 q4 => by
        refine ⟨x, ?_, Int.lt_of_le_of_lt (Rw.walk_le hr q1 q2 q3) q4⟩
        cases q with
        | nil => exact absurd rfl q2
        | cons f q =>
          have := Rw.ab_bd hr q1.1
          rw [← q1.2.1]
          exact this.1
      rcases simp_or _ a a hc hT.n with ⟨x, q, q1, q2, q3, q4⟩ | ⟨q, q1, q2, q3, q4⟩
      · exact fin x q q1 q2 q3 q4
      · exact fin a q q1 q2 q3 (by omega)
theorem Rw.walk_bd {r : Rw} (hr : r.ok) (a b : Nat) : -24800 ≤ r.walkR a b ∧ r.walkR a b ≤ open8 := by
  have := lst_bd hr Rw.tb_ok (r.n + 1) b 7 a (fun _ => false)
  unfold Rw.walkR
  omega
end Go.Proofs.YtnnikeolgknfoaaGreat

set_option linter.unusedSimpArgs false
set_option linter.unusedVariables false
namespace Go.Proofs.YtnnikeolgknfoaaGreat
open Go.RowKit Go.Shelf

theorem off_any (n lo hi : Int) (w : World) :
    Calls Tryz.prog 89 #[.int .i64 n, .int .i64 lo, .int .i64 hi] w fun e w' => e = .returned (.bool (!inB n lo hi)) ∧ w = w' := by
  by_cases h1 : n < lo
  · go_enter Tryz.func89, Tryz.ntmps89
    go_wp2
    go_ret
    exact ⟨by simp [inB]; omega, rfl⟩
  · by_cases h2 : hi < n
    · go_enter Tryz.func89, Tryz.ntmps89
      go_wp2
      go_ret
      exact ⟨by simp [inB]; omega, rfl⟩
    · go_enter Tryz.func89, Tryz.ntmps89
      go_wp2
      go_ret
      exact ⟨by simp [inB]; omega, rfl⟩
theorem off_bel (n lo hi : Int) (w : World) : Calls Tryz.prog 89 #[.int .i64 n, .int .i64 lo, .int .i64 hi] w fun e w' => e = .returned (.bool (!inB n lo hi)) ∧ Below w.heap.size w w' :=
  (off_any n lo hi w).mono (fun _ _ h => ⟨h.1, h.2 ▸ Below.refl _ _⟩)
theorem allF {f : Nat → Bool} {n k : Nat} (hk : k < n) (h : f k = false) : allN f n = false := by
  cases h1 : allN f n with
  | false => rfl
  | true => have := allN_iff.1 h1 k hk; rw [h] at this; cases this
def bnB (r : Rw) (k : Nat) : Bool := (r.B k).gets && inB (r.B k).s 0 r.d
def wgB (r : Rw) (k : Nat) : Bool := inB (r.V k).p 0 3000 && inB (r.V k).e 0 100
def kdB (r : Rw) (k : Nat) : Bool := inB (r.D k) 0 2
def wsB (r : Rw) (k : Nat) : Bool := inB (r.V k).f 0 ((r.n : Int) - 1) && inB (r.V k).t 0 ((r.n : Int) - 1)
def woB (r : Rw) (k : Nat) : Bool := decide ((r.V k).f ≤ (r.V k).t)
def gkB (b : Bn) (j : Nat) : Bool := inB (b.lo j) 0 50 && inB (b.hi j) 0 50 && decide (b.lo j ≤ b.hi j)
theorem gets_yes {b : Bn} (h : ∀ j, j < 3 → gkB b j = true) : b.gets = true := Bn.gets_iff.2 (fun k hk => by
  have := h k hk
  unfold gkB at this
  simp only [Bool.and_eq_true, inB_iff, decide_eq_true_eq] at this
  omega)
theorem gets_no {b : Bn} {j : Nat} (hj : j < 3) (h : gkB b j = false) : b.gets = false := by
  cases e : b.gets with
  | false => rfl
  | true =>
    have h1 := Bn.gets_iff.1 e j hj
    have : gkB b j = true := by
      unfold gkB
      simp only [Bool.and_eq_true, inB_iff, decide_eq_true_eq]
      omega
    rw [h] at this
    cases this
def Rw.cntBad (r : Rw) : Prop := ¬ (1 ≤ r.n ∧ r.n ≤ 6) ∨ 7 < r.d ∨ 10 < r.m
theorem chk_b {r : Rw} (hC : ¬ r.cntBad) {k : Nat} (hk : k < r.n) (h : bnB r k = false) : r.check = 4 := by
  unfold Rw.check
  rw [if_neg (show ¬ (¬ (1 ≤ r.n ∧ r.n ≤ 6) ∨ 7 < r.d ∨ 10 < r.m) from hC), if_pos (show allN (fun k => (r.B k).gets && inB (r.B k).s 0 r.d) r.n = false from allF hk h)]
theorem chk_w {r : Rw} (hC : ¬ r.cntBad) (hB : allN (bnB r) r.n = true) {k : Nat} (hk : k < r.m) (h : wgB r k = false) : r.check = 4 := by
  unfold Rw.check
  rw [if_neg (show ¬ (¬ (1 ≤ r.n ∧ r.n ≤ 6) ∨ 7 < r.d ∨ 10 < r.m) from hC), if_neg (by rw [show allN (fun k => (r.B k).gets && inB (r.B k).s 0 r.d) r.n = true from hB]; decide), if_pos (show allN (fun k => inB (r.V k).p 0 3000 && inB (r.V k).e 0 100) r.m = false from allF hk h)]
theorem chk_k {r : Rw} (hC : ¬ r.cntBad) (hB : allN (bnB r) r.n = true) (hW : allN (wgB r) r.m = true) {k : Nat} (hk : k < r.d) (h : kdB r k = false) : r.check = 2 := by
  unfold Rw.check
  rw [if_neg (show ¬ (¬ (1 ≤ r.n ∧ r.n ≤ 6) ∨ 7 < r.d ∨ 10 < r.m) from hC), if_neg (by rw [show allN (fun k => (r.B k).gets && inB (r.B k).s 0 r.d) r.n = true from hB]; decide), if_neg (by rw [show allN (fun k => inB (r.V k).p 0 3000 && inB (r.V k).e 0 100) r.m = true from hW]; decide), if_pos (show allN (fun k => inB (r.D k) 0 2) r.d = false from allF hk h)]
theorem chk_s {r : Rw} (hC : ¬ r.cntBad) (hB : allN (bnB r) r.n = true) (hW : allN (wgB r) r.m = true) (hK : allN (kdB r) r.d = true) {k : Nat} (hk : k < r.m) (h : wsB r k = false) : r.check = 2 := by
  unfold Rw.check
  rw [if_neg (show ¬ (¬ (1 ≤ r.n ∧ r.n ≤ 6) ∨ 7 < r.d ∨ 10 < r.m) from hC), if_neg (by rw [show allN (fun k => (r.B k).gets && inB (r.B k).s 0 r.d) r.n = true from hB]; decide), if_neg (by rw [show allN (fun k => inB (r.V k).p 0 3000 && inB (r.V k).e 0 100) r.m = true from hW]; decide), if_neg (by rw [show allN (fun k => inB (r.D k) 0 2) r.d = true from hK]; decide), if_pos (show allN (fun k => inB (r.V k).f 0 ((r.n : Int) - 1) && inB (r.V k).t 0 ((r.n : Int) - 1)) r.m = false from allF hk h)]
theorem chk_o {r : Rw} (hC : ¬ r.cntBad) (hB : allN (bnB r) r.n = true) (hW : allN (wgB r) r.m = true) (hK : allN (kdB r) r.d = true) (hS : allN (wsB r) r.m = true) : r.check = if allN (woB r) r.m = false then 6 else 0 := by
  unfold Rw.check
  rw [if_neg (show ¬ (¬ (1 ≤ r.n ∧ r.n ≤ 6) ∨ 7 < r.d ∨ 10 < r.m) from hC), if_neg (by rw [show allN (fun k => (r.B k).gets && inB (r.B k).s 0 r.d) r.n = true from hB]; decide), if_neg (by rw [show allN (fun k => inB (r.V k).p 0 3000 && inB (r.V k).e 0 100) r.m = true from hW]; decide), if_neg (by rw [show allN (fun k => inB (r.D k) 0 2) r.d = true from hK]; decide), if_neg (by rw [show allN (fun k => inB (r.V k).f 0 ((r.n : Int) - 1) && inB (r.V k).t 0 ((r.n : Int) - 1)) r.m = true from hS]; decide)]
  rfl
theorem all_put {f : Nat → Bool} {k : Nat} (h : ∀ j, j < k → f j = true) (hk : f k = true) : ∀ j, j < k + 1 → f j = true := fun j hj => by
  by_cases e : j = k
  · rw [e]; exact hk
  · exact h j (by omega)

set_option maxRecDepth 100000 in
set_option maxHeartbeats 4000000 in
theorem rcheck_count (r : Rw) (bA dA vA : Option Addr) (bc dc vc : Nat) (W : World) (hc : r.cntBad) :
    Calls Tryz.prog 49 #[rwV bA r.n bc dA r.d dc vA r.m vc] W fun e W' => e = .returned (.int .i64 3) ∧ Below W.heap.size W W' := by
  unfold Rw.cntBad at hc
  cases h1 : inB r.n 1 6 with
  | false =>
    clear hc
    go_enter Tryz.func49, Tryz.ntmps49
    go_wp2_with (go_at_call 89; refine (off_any _ _ _ _).mono ?_; rintro e w' ⟨rfl, rfl⟩)
    go_ret
    exact ⟨rfl, (by repeat (first | (with_reducible first | exact Below.refl _ _ | refine Below.drew ?_ | refine below_drewN ?_ _) | ((with_reducible first | refine Lc ?_ ?_ _ | refine Ls ?_ ?_ _ | refine Lv (by assumption) ?_ ?_); · first | exact Nat.le_refl _ | omega | (simp; done) | (simp; omega) | (simp at *; omega))))⟩
  | true =>
    have h1' : 1 ≤ r.n ∧ r.n ≤ 6 := by simp [inB] at h1; omega
    by_cases h7 : 7 < r.d
    · have h7' : (7 : Int) < (r.d : Int) := by omega
      clear hc h7
      go_enter Tryz.func49, Tryz.ntmps49
      go_wp2_with (go_at_call 89; refine (off_any _ _ _ _).mono ?_; rintro e w' ⟨rfl, rfl⟩)
      go_ret
      exact ⟨rfl, (by repeat (first | (with_reducible first | exact Below.refl _ _ | refine Below.drew ?_ | refine below_drewN ?_ _) | ((with_reducible first | refine Lc ?_ ?_ _ | refine Ls ?_ ?_ _ | refine Lv (by assumption) ?_ ?_); · first | exact Nat.le_refl _ | omega | (simp; done) | (simp; omega) | (simp at *; omega))))⟩
    · have h7' : ¬ (7 : Int) < (r.d : Int) := by omega
      have h10' : (10 : Int) < (r.m : Int) := by omega
      clear hc h7
      go_enter Tryz.func49, Tryz.ntmps49
      go_wp2_with (go_at_call 89; refine (off_any _ _ _ _).mono ?_; rintro e w' ⟨rfl, rfl⟩)
      go_ret
      exact ⟨rfl, (by repeat (first | (with_reducible first | exact Below.refl _ _ | refine Below.drew ?_ | refine below_drewN ?_ _) | ((with_reducible first | refine Lc ?_ ?_ _ | refine Ls ?_ ?_ _ | refine Lv (by assumption) ?_ ?_); · first | exact Nat.le_refl _ | omega | (simp; done) | (simp; omega) | (simp at *; omega))))⟩

set_option maxRecDepth 100000 in
set_option maxHeartbeats 8000000 in
theorem rcheck_in (r : Rw) (bA dA vA : Option Addr) (bc dc vc : Nat) (W : World) (hr : RwRow W W.heap.size r bA bc dA dc vA vc) (hc : ¬ r.cntBad) :
    Calls Tryz.prog 49 #[rwV bA r.n bc dA r.d dc vA r.m vc] W fun e W' => e = .returned (.int .i64 r.check) ∧ Below W.heap.size W W' := by
  have H0 := Lib.hid hr
  have HC := Lib.hid hc
  have hn16 : 1 ≤ r.n ∧ r.n ≤ 6 := by unfold Rw.cntBad at hc; omega
  have hd7 : r.d ≤ 7 := by unfold Rw.cntBad at hc; omega
  have hm10 : r.m ≤ 10 := by unfold Rw.cntBad at hc; omega
  have j0 : inB r.n 1 6 = true := by simp [inB]; omega
  have j1 : ¬ (7 : Int) < (r.d : Int) := by omega
  have j2 : ¬ (10 : Int) < (r.m : Int) := by omega
  have en1 : IntKind.i64.wrap ((r.n : Int) - 1) = (r.n : Int) - 1 := IntWalk.i64_in _ (by omega)
  clear hr hc
  go_enter Tryz.func49, Tryz.ntmps49
  go_upto_region 1 with fail
  refine wp_world (fun W1 => RwAt W1 W.heap.size r bA bc dA dc vA vc ∧ Below W.heap.size W W1 ∧ W.heap.size < W1.heap.size) ⟨⟨(by (repeat' refine And.intro ?_ ?_) <;> (repeat (first | with_reducible assumption | (simp; done) | (with_reducible first | refine Kd ?_ | refine Kn ?_ | refine Kb (by assumption) ?_) | ((with_reducible first | refine Kw ?_ ?_ | refine Fw ?_) <;> first | with_reducible rfl | (simp; done)) | (with_reducible first | refine Ka _ ?_ | refine Ks _ (by first | exact Nat.le_refl _ | omega | (simp; done) | (simp; omega)) ?_ | refine Fd ?_ | refine Fn ?_ | refine Fb (by assumption) (by first | exact Nat.le_refl _ | omega | (simp; done) | (simp; omega)) ?_ | refine Fa _ (by first | exact Nat.le_refl _ | omega | (simp; done) | (simp; omega)) ?_ | refine Fs _ ?_)))), (by (repeat' refine And.intro ?_ ?_) <;> (repeat (first | with_reducible assumption | (simp; done) | (with_reducible first | refine Kd ?_ | refine Kn ?_ | refine Kb (by assumption) ?_) | ((with_reducible first | refine Kw ?_ ?_ | refine Fw ?_) <;> first | with_reducible rfl | (simp; done)) | (with_reducible first | refine Ka _ ?_ | refine Ks _ (by first | exact Nat.le_refl _ | omega | (simp; done) | (simp; omega)) ?_ | refine Fd ?_ | refine Fn ?_ | refine Fb (by assumption) (by first | exact Nat.le_refl _ | omega | (simp; done) | (simp; omega)) ?_ | refine Fa _ (by first | exact Nat.le_refl _ | omega | (simp; done) | (simp; omega)) ?_ | refine Fs _ ?_)))), (by (repeat' refine And.intro ?_ ?_) <;> (repeat (first | with_reducible assumption | (simp; done) | (with_reducible first | refine Kd ?_ | refine Kn ?_ | refine Kb (by assumption) ?_) | ((with_reducible first | refine Kw ?_ ?_ | refine Fw ?_) <;> first | with_reducible rfl | (simp; done)) | (with_reducible first | refine Ka _ ?_ | refine Ks _ (by first | exact Nat.le_refl _ | omega | (simp; done) | (simp; omega)) ?_ | refine Fd ?_ | refine Fn ?_ | refine Fb (by assumption) (by first | exact Nat.le_refl _ | omega | (simp; done) | (simp; omega)) ?_ | refine Fa _ (by first | exact Nat.le_refl _ | omega | (simp; done) | (simp; omega)) ?_ | refine Fs _ ?_))))⟩, (by repeat (first | (with_reducible first | exact Below.refl _ _ | assumption | refine Below.drew ?_) | ((with_reducible first | refine Lc ?_ ?_ _ | refine Ls ?_ ?_ _ | refine Lv (by assumption) ?_ ?_); · first | exact Nat.le_refl _ | omega | (dsimp only; omega) | (simp only [World.size_alloc, World.size_drew, World.heap_drewN]; omega) | (simp; omega)))), by simp⟩ ?_
  rintro W1 ⟨hA, hb1, hsz1⟩
  have HA := Lib.hid hA
  have HB1 := Lib.hid hb1
  obtain ⟨a0, a1, a2⟩ := hA
  clear hb1
  go_wp2_with (go_at_call 89; refine (off_any _ _ _ _).mono ?_; rintro e w' ⟨rfl, rfl⟩)
  clear a0 a1 a2 j0 j1 j2
  go_loopw [3] (fun i wr => ∃ k : Nat, k ≤ r.n ∧ i = .int .i64 k ∧ Hid (∀ j, j < k → bnB r j = true) ∧ Hid (Below W1.heap.size W1 wr)) (fun i _ => r.n - (intOf i).toNat)
  case atStart => exact ⟨0, Nat.zero_le _, rfl, Lib.hid (fun j hj => absurd hj (by omega)), Lib.hid (Below.refl _ _)⟩
  case round =>
    obtain ⟨k, hk, rfl, HALL, HB⟩ := hrel
    obtain ⟨wo, rfl⟩ : ∃ wo, wo = wr := ⟨_, rfl⟩
    have HY : Hid (Below W.heap.size W wo) := Lib.hid (HB1.out.trans (HB.out.mono (by omega)))
    have hyo := HY.out
    obtain ⟨a0, a1, a2⟩ := HA.out.later HB.out
    have hsB := HB.out.size
    by_cases hlt : k < r.n
    · have hk0 : (0 : Int) ≤ (k : Int) := by omega
      have hkn : (k : Int) < (r.n : Int) := by omega
      have ek : IntKind.i64.wrap ((k : Int) + 1) = (k : Int) + 1 := IntWalk.i64_in _ (by omega)
      go_wp2_with fail
      clear a0 a1 a2 hyo
      go_loopw [4] (fun i wr => ∃ q : Nat, q ≤ 3 ∧ i = .int .i64 q ∧ Hid (∀ j, j < q → gkB (r.B k) j = true) ∧ Hid (Below W1.heap.size W1 wr)) (fun i _ => 3 - (intOf i).toNat)
      case atStart => exact ⟨0, by omega, rfl, Lib.hid (fun j hj => absurd hj (by omega)), HB⟩
      case round =>
        obtain ⟨q, hq, rfl, HG, HBq⟩ := hrel
        obtain ⟨wq, rfl⟩ : ∃ wq, wq = wr := ⟨_, rfl⟩
        have HYq : Hid (Below W.heap.size W wq) := Lib.hid (HB1.out.trans (HBq.out.mono (by omega)))
        have hyo := HYq.out
        obtain ⟨a0, a1, a2⟩ := HA.out.later HBq.out
        obtain ⟨b, o, hbA, hbl, d0, d1, d2, d3, d4, d5, d6⟩ := (H0.out.later HYq.out).b k hlt
        subst hbA
        have h4 : q = 0 ∨ q = 1 ∨ q = 2 ∨ q = 3 := by omega
        rcases h4 with h4 | h4 | h4 | h4
        · obtain rfl : q = 0 := by omega
          cases g1 : inB ((r.B k).lo 0) 0 50 with
          | false =>
            have HR : Hid (r.check = 4) := Lib.hid (chk_b HC.out hlt (by unfold bnB; rw [gets_no (j := 0) (by omega) (by unfold gkB; rw [g1]; rfl)]; rfl))
            go_wp2_with (go_at_call 89; refine (off_any _ _ _ _).mono ?_; rintro e w' ⟨rfl, rfl⟩)
            go_ret
            exact ⟨by rw [HR.out]; rfl, hyo.alloc hyo.size _⟩
          | true =>
            cases g2 : inB ((r.B k).hi 0) 0 50 with
            | false =>
              have HR : Hid (r.check = 4) := Lib.hid (chk_b HC.out hlt (by unfold bnB; rw [gets_no (j := 0) (by omega) (by unfold gkB; rw [g1, g2]; rfl)]; rfl))
              go_wp2_with (go_at_call 89; refine (off_any _ _ _ _).mono ?_; rintro e w' ⟨rfl, rfl⟩)
              go_ret
              exact ⟨by rw [HR.out]; rfl, hyo.alloc hyo.size _⟩
            | true =>
              by_cases g3 : (r.B k).lo 0 ≤ (r.B k).hi 0
              · have g4 : ¬ (r.B k).hi 0 < (r.B k).lo 0 := by omega
                have HU : Hid (gkB (r.B k) 0 = true) := Lib.hid (by unfold gkB; rw [g1, g2, decide_eq_true g3]; rfl)
                clear g3
                go_wp2_with (go_at_call 89; refine (off_any _ _ _ _).mono ?_; rintro e w' ⟨rfl, rfl⟩)
                go_roundw
                case rel => exact ⟨1, by omega, by simp, Lib.hid (all_put HG.out HU.out), Lib.hid (HBq.out.alloc HBq.out.size _)⟩
                case measure => simp [intOf]
              · have g4 : (r.B k).hi 0 < (r.B k).lo 0 := by omega
                have HR : Hid (r.check = 4) := Lib.hid (chk_b HC.out hlt (by unfold bnB; rw [gets_no (j := 0) (by omega) (by unfold gkB; rw [g1, g2, decide_eq_false g3]; rfl)]; rfl))
                clear g3
                go_wp2_with (go_at_call 89; refine (off_any _ _ _ _).mono ?_; rintro e w' ⟨rfl, rfl⟩)
                go_ret
                exact ⟨by rw [HR.out]; rfl, hyo.alloc hyo.size _⟩
        · obtain rfl : q = 1 := by omega
          cases g1 : inB ((r.B k).lo 1) 0 50 with
          | false =>
            have HR : Hid (r.check = 4) := Lib.hid (chk_b HC.out hlt (by unfold bnB; rw [gets_no (j := 1) (by omega) (by unfold gkB; rw [g1]; rfl)]; rfl))
            go_wp2_with (go_at_call 89; refine (off_any _ _ _ _).mono ?_; rintro e w' ⟨rfl, rfl⟩)
            go_ret
            exact ⟨by rw [HR.out]; rfl, hyo.alloc hyo.size _⟩
          | true =>
            cases g2 : inB ((r.B k).hi 1) 0 50 with
            | false =>
              have HR : Hid (r.check = 4) := Lib.hid (chk_b HC.out hlt (by unfold bnB; rw [gets_no (j := 1) (by omega) (by unfold gkB; rw [g1, g2]; rfl)]; rfl))
              go_wp2_with (go_at_call 89; refine (off_any _ _ _ _).mono ?_; rintro e w' ⟨rfl, rfl⟩)
              go_ret
              exact ⟨by rw [HR.out]; rfl, hyo.alloc hyo.size _⟩
            | true =>
              by_cases g3 : (r.B k).lo 1 ≤ (r.B k).hi 1
              · have g4 : ¬ (r.B k).hi 1 < (r.B k).lo 1 := by omega
                have HU : Hid (gkB (r.B k) 1 = true) := Lib.hid (by unfold gkB; rw [g1, g2, decide_eq_true g3]; rfl)
                clear g3
                go_wp2_with (go_at_call 89; refine (off_any _ _ _ _).mono ?_; rintro e w' ⟨rfl, rfl⟩)
                go_roundw
                case rel => exact ⟨2, by omega, by simp, Lib.hid (all_put HG.out HU.out), Lib.hid (HBq.out.alloc HBq.out.size _)⟩
                case measure => simp [intOf]
              · have g4 : (r.B k).hi 1 < (r.B k).lo 1 := by omega
                have HR : Hid (r.check = 4) := Lib.hid (chk_b HC.out hlt (by unfold bnB; rw [gets_no (j := 1) (by omega) (by unfold gkB; rw [g1, g2, decide_eq_false g3]; rfl)]; rfl))
                clear g3
                go_wp2_with (go_at_call 89; refine (off_any _ _ _ _).mono ?_; rintro e w' ⟨rfl, rfl⟩)
                go_ret
                exact ⟨by rw [HR.out]; rfl, hyo.alloc hyo.size _⟩
        · obtain rfl : q = 2 := by omega
          cases g1 : inB ((r.B k).lo 2) 0 50 with
          | false =>
            have HR : Hid (r.check = 4) := Lib.hid (chk_b HC.out hlt (by unfold bnB; rw [gets_no (j := 2) (by omega) (by unfold gkB; rw [g1]; rfl)]; rfl))
            go_wp2_with (go_at_call 89; refine (off_any _ _ _ _).mono ?_; rintro e w' ⟨rfl, rfl⟩)
            go_ret
            exact ⟨by rw [HR.out]; rfl, hyo.alloc hyo.size _⟩
          | true =>
            cases g2 : inB ((r.B k).hi 2) 0 50 with
            | false =>
              have HR : Hid (r.check = 4) := Lib.hid (chk_b HC.out hlt (by unfold bnB; rw [gets_no (j := 2) (by omega) (by unfold gkB; rw [g1, g2]; rfl)]; rfl))
              go_wp2_with (go_at_call 89; refine (off_any _ _ _ _).mono ?_; rintro e w' ⟨rfl, rfl⟩)
              go_ret
              exact ⟨by rw [HR.out]; rfl, hyo.alloc hyo.size _⟩
            | true =>
              by_cases g3 : (r.B k).lo 2 ≤ (r.B k).hi 2
              · have g4 : ¬ (r.B k).hi 2 < (r.B k).lo 2 := by omega
                have HU : Hid (gkB (r.B k) 2 = true) := Lib.hid (by unfold gkB; rw [g1, g2, decide_eq_true g3]; rfl)
                clear g3
                go_wp2_with (go_at_call 89; refine (off_any _ _ _ _).mono ?_; rintro e w' ⟨rfl, rfl⟩)
                go_roundw
                case rel => exact ⟨3, by omega, by simp, Lib.hid (all_put HG.out HU.out), Lib.hid (HBq.out.alloc HBq.out.size _)⟩
                case measure => simp [intOf]
              · have g4 : (r.B k).hi 2 < (r.B k).lo 2 := by omega
                have HR : Hid (r.check = 4) := Lib.hid (chk_b HC.out hlt (by unfold bnB; rw [gets_no (j := 2) (by omega) (by unfold gkB; rw [g1, g2, decide_eq_false g3]; rfl)]; rfl))
                clear g3
                go_wp2_with (go_at_call 89; refine (off_any _ _ _ _).mono ?_; rintro e w' ⟨rfl, rfl⟩)
                go_ret
                exact ⟨by rw [HR.out]; rfl, hyo.alloc hyo.size _⟩
        · obtain rfl : q = 3 := by omega
          have HGT := Lib.hid (gets_yes HG.out)
          cases g1 : inB (r.B k).s 0 r.d with
          | false =>
            have HR : Hid (r.check = 4) := Lib.hid (chk_b HC.out hlt (by unfold bnB; rw [HGT.out, g1]; rfl))
            have HIN : Hid (∀ w, Calls Tryz.prog 89 #[.int .i64 (r.B k).s, .int .i64 0, .int .i64 (r.d : Int)] w fun e w' => e = .returned (.bool true) ∧ Below w.heap.size w w') := Lib.hid (fun w => (off_bel _ _ _ w).mono (fun e w' hh => ⟨by rw [hh.1, g1]; rfl, hh.2⟩))
            clear g1
            go_upto_region 12 with fail
            have x0 := cell_regrown a0
            have x1 := cell_regrown a1
            have x2 := cell_regrown d6
            clear a0 a1 a2 d0 d1 d2 d3 d4 d5 d6 hyo
            refine region_qbw (by kernel_rfl) (by kernel_rfl) ?_
            repeat (first | go_big_quiet_step ((go_at_call 89; exact Calls.regrown_of (HIN.out _))) | quiet_step ((go_at_call 89; exact Calls.regrown_of (HIN.out _))))
            refine wpQuiet_nil ?_; intro wq2 hbq
            have hyq := Lib.hid (HYq.out.trans (hbq.mono HYq.out.size))
            clear x0 x1 x2 hbq
            go_wp2_with fail
            go_ret
            exact ⟨by rw [HR.out]; rfl, hyq.out⟩
          | true =>
            have HU : Hid (bnB r k = true) := Lib.hid (by unfold bnB; rw [HGT.out, g1]; rfl)
            have HIN : Hid (∀ w, Calls Tryz.prog 89 #[.int .i64 (r.B k).s, .int .i64 0, .int .i64 (r.d : Int)] w fun e w' => e = .returned (.bool false) ∧ Below w.heap.size w w') := Lib.hid (fun w => (off_bel _ _ _ w).mono (fun e w' hh => ⟨by rw [hh.1, g1]; rfl, hh.2⟩))
            clear g1
            go_upto_region 12 with fail
            have x0 := cell_regrown a0
            have x1 := cell_regrown a1
            have x2 := cell_regrown d6
            clear a0 a1 a2 d0 d1 d2 d3 d4 d5 d6 hyo
            refine region_qbw (by kernel_rfl) (by kernel_rfl) ?_
            repeat (first | go_big_quiet_step ((go_at_call 89; exact Calls.regrown_of (HIN.out _))) | quiet_step ((go_at_call 89; exact Calls.regrown_of (HIN.out _))))
            refine wpQuiet_nil ?_; intro wq2 hbq
            have hbw2 := Lib.hid (HBq.out.trans (hbq.mono HBq.out.size))
            clear x0 x1 x2 hbq
            go_wp2_with fail
            refine ⟨?_, ?measure⟩
            case measure => simp [intOf]; omega
            exact ⟨k + 1, by omega, by go_num, Lib.hid (all_put HALL.out HU.out), hbw2⟩
    · have hk' : k = r.n := by omega
      have HAB : Hid (allN (bnB r) r.n = true) := Lib.hid (allN_iff.2 (by rw [← hk']; exact HALL.out))
      have hge : ¬ (k : Int) < (r.n : Int) := by omega
      clear HALL
      go_wp2_with fail
      clear a0 a1 a2 hyo
      go_loopw [6] (fun i wr => ∃ k : Nat, k ≤ r.m ∧ i = .int .i64 k ∧ Hid (∀ j, j < k → wgB r j = true) ∧ Hid (Below W1.heap.size W1 wr)) (fun i _ => r.m - (intOf i).toNat)
      case atStart => exact ⟨0, Nat.zero_le _, rfl, Lib.hid (fun j hj => absurd hj (by omega)), HB⟩
      case round =>
        clear HB HY hsB hk' hge
        obtain ⟨k, hk, rfl, HALL, HB⟩ := hrel
        obtain ⟨wo, rfl⟩ : ∃ wo, wo = wr := ⟨_, rfl⟩
        have HY : Hid (Below W.heap.size W wo) := Lib.hid (HB1.out.trans (HB.out.mono (by omega)))
        have hyo := HY.out
        obtain ⟨a0, a1, a2⟩ := HA.out.later HB.out
        have hsB := HB.out.size
        by_cases hlt : k < r.m
        · obtain ⟨b, o, hbA, hbl, d0, d1, d2, d3⟩ := (H0.out.later HY.out).v k hlt
          subst hbA
          have hk0 : (0 : Int) ≤ (k : Int) := by omega
          have hkn : (k : Int) < (r.m : Int) := by omega
          have ek : IntKind.i64.wrap ((k : Int) + 1) = (k : Int) + 1 := IntWalk.i64_in _ (by omega)
          cases g1 : inB (r.V k).p 0 3000 with
          | false =>
            have HR : Hid (r.check = 4) := Lib.hid (chk_w HC.out HAB.out hlt (by unfold wgB; rw [g1]; rfl))
            go_wp2_with (go_at_call 89; refine (off_any _ _ _ _).mono ?_; rintro e w' ⟨rfl, rfl⟩)
            go_ret
            exact ⟨by rw [HR.out]; rfl, (by repeat (first | (with_reducible first | exact Below.refl _ _ | refine Below.drew ?_ | refine below_drewN ?_ _) | ((with_reducible first | refine Lc ?_ ?_ _ | refine Ls ?_ ?_ _ | refine Lv (by assumption) ?_ ?_); · first | exact Nat.le_refl _ | omega | (simp; done) | (simp; omega) | (simp at *; omega))))⟩
          | true =>
            cases g2 : inB (r.V k).e 0 100 with
            | false =>
              have HR : Hid (r.check = 4) := Lib.hid (chk_w HC.out HAB.out hlt (by unfold wgB; rw [g1, g2]; rfl))
              go_wp2_with (go_at_call 89; refine (off_any _ _ _ _).mono ?_; rintro e w' ⟨rfl, rfl⟩)
              go_ret
              exact ⟨by rw [HR.out]; rfl, (by repeat (first | (with_reducible first | exact Below.refl _ _ | refine Below.drew ?_ | refine below_drewN ?_ _) | ((with_reducible first | refine Lc ?_ ?_ _ | refine Ls ?_ ?_ _ | refine Lv (by assumption) ?_ ?_); · first | exact Nat.le_refl _ | omega | (simp; done) | (simp; omega) | (simp at *; omega))))⟩
            | true =>
              have HU : Hid (wgB r k = true) := Lib.hid (by unfold wgB; rw [g1, g2]; rfl)
              go_wp2_with (go_at_call 89; refine (off_any _ _ _ _).mono ?_; rintro e w' ⟨rfl, rfl⟩)
              go_roundw
              case rel => exact ⟨k + 1, by omega, by go_num, Lib.hid (all_put HALL.out HU.out), Lib.hid (by have h := HB.out; exact (by repeat (first | (with_reducible first | exact Below.refl _ _ | assumption | refine Below.drew ?_) | ((with_reducible first | refine Lc ?_ ?_ _ | refine Ls ?_ ?_ _ | refine Lv (by assumption) ?_ ?_); · first | exact Nat.le_refl _ | omega | (dsimp only; omega) | (simp only [World.size_alloc, World.size_drew, World.heap_drewN]; omega) | (simp; omega)))))⟩
              case measure => simp [intOf]; omega
        · have hk' : k = r.m := by omega
          have HAW : Hid (allN (wgB r) r.m = true) := Lib.hid (allN_iff.2 (by rw [← hk']; exact HALL.out))
          have hge : ¬ (k : Int) < (r.m : Int) := by omega
          clear HALL
          go_wp2_with fail
          clear a0 a1 a2 hyo
          go_loopw [8] (fun i wr => ∃ k : Nat, k ≤ r.d ∧ i = .int .i64 k ∧ Hid (∀ j, j < k → kdB r j = true) ∧ Hid (Below W1.heap.size W1 wr)) (fun i _ => r.d - (intOf i).toNat)
          case atStart => exact ⟨0, Nat.zero_le _, rfl, Lib.hid (fun j hj => absurd hj (by omega)), HB⟩
          case round =>
            clear HB HY hsB hk' hge
            obtain ⟨k, hk, rfl, HALL, HB⟩ := hrel
            obtain ⟨wo, rfl⟩ : ∃ wo, wo = wr := ⟨_, rfl⟩
            have HY : Hid (Below W.heap.size W wo) := Lib.hid (HB1.out.trans (HB.out.mono (by omega)))
            have hyo := HY.out
            obtain ⟨a0, a1, a2⟩ := HA.out.later HB.out
            have hsB := HB.out.size
            by_cases hlt : k < r.d
            · obtain ⟨b, o, hbA, hbl, d0⟩ := (H0.out.later HY.out).d k hlt
              subst hbA
              have hk0 : (0 : Int) ≤ (k : Int) := by omega
              have hkn : (k : Int) < (r.d : Int) := by omega
              have ek : IntKind.i64.wrap ((k : Int) + 1) = (k : Int) + 1 := IntWalk.i64_in _ (by omega)
              cases g1 : inB (r.D k) 0 2 with
              | false =>
                have HR : Hid (r.check = 2) := Lib.hid (chk_k HC.out HAB.out HAW.out hlt (by unfold kdB; rw [g1]))
                go_wp2_with (go_at_call 89; refine (off_any _ _ _ _).mono ?_; rintro e w' ⟨rfl, rfl⟩)
                go_ret
                exact ⟨by rw [HR.out]; rfl, (by repeat (first | (with_reducible first | exact Below.refl _ _ | refine Below.drew ?_ | refine below_drewN ?_ _) | ((with_reducible first | refine Lc ?_ ?_ _ | refine Ls ?_ ?_ _ | refine Lv (by assumption) ?_ ?_); · first | exact Nat.le_refl _ | omega | (simp; done) | (simp; omega) | (simp at *; omega))))⟩
              | true =>
                have HU : Hid (kdB r k = true) := Lib.hid (by unfold kdB; rw [g1])
                go_wp2_with (go_at_call 89; refine (off_any _ _ _ _).mono ?_; rintro e w' ⟨rfl, rfl⟩)
                go_roundw
                case rel => exact ⟨k + 1, by omega, by go_num, Lib.hid (all_put HALL.out HU.out), Lib.hid (by have h := HB.out; exact (by repeat (first | (with_reducible first | exact Below.refl _ _ | assumption | refine Below.drew ?_) | ((with_reducible first | refine Lc ?_ ?_ _ | refine Ls ?_ ?_ _ | refine Lv (by assumption) ?_ ?_); · first | exact Nat.le_refl _ | omega | (dsimp only; omega) | (simp only [World.size_alloc, World.size_drew, World.heap_drewN]; omega) | (simp; omega)))))⟩
                case measure => simp [intOf]; omega
            · have hk' : k = r.d := by omega
              have HAK : Hid (allN (kdB r) r.d = true) := Lib.hid (allN_iff.2 (by rw [← hk']; exact HALL.out))
              have hge : ¬ (k : Int) < (r.d : Int) := by omega
              clear HALL
              go_wp2_with fail
              clear a0 a1 a2 hyo
              go_loopw [9] (fun i wr => ∃ k : Nat, k ≤ r.m ∧ i = .int .i64 k ∧ Hid (∀ j, j < k → wsB r j = true) ∧ Hid (Below W1.heap.size W1 wr)) (fun i _ => r.m - (intOf i).toNat)
              case atStart => exact ⟨0, Nat.zero_le _, rfl, Lib.hid (fun j hj => absurd hj (by omega)), HB⟩
              case round =>
                clear HB HY hsB hk' hge
                obtain ⟨k, hk, rfl, HALL, HB⟩ := hrel
                obtain ⟨wo, rfl⟩ : ∃ wo, wo = wr := ⟨_, rfl⟩
                have HY : Hid (Below W.heap.size W wo) := Lib.hid (HB1.out.trans (HB.out.mono (by omega)))
                have hyo := HY.out
                obtain ⟨a0, a1, a2⟩ := HA.out.later HB.out
                have hsB := HB.out.size
                by_cases hlt : k < r.m
                · obtain ⟨b, o, hbA, hbl, d0, d1, d2, d3⟩ := (H0.out.later HY.out).v k hlt
                  subst hbA
                  have hk0 : (0 : Int) ≤ (k : Int) := by omega
                  have hkn : (k : Int) < (r.m : Int) := by omega
                  have ek : IntKind.i64.wrap ((k : Int) + 1) = (k : Int) + 1 := IntWalk.i64_in _ (by omega)
                  cases g1 : inB (r.V k).f 0 ((r.n : Int) - 1) with
                  | false =>
                    have HR : Hid (r.check = 2) := Lib.hid (chk_s HC.out HAB.out HAW.out HAK.out hlt (by unfold wsB; rw [g1]; rfl))
                    go_wp2_with (go_at_call 89; refine (off_any _ _ _ _).mono ?_; rintro e w' ⟨rfl, rfl⟩)
                    go_ret
                    exact ⟨by rw [HR.out]; rfl, (by repeat (first | (with_reducible first | exact Below.refl _ _ | refine Below.drew ?_ | refine below_drewN ?_ _) | ((with_reducible first | refine Lc ?_ ?_ _ | refine Ls ?_ ?_ _ | refine Lv (by assumption) ?_ ?_); · first | exact Nat.le_refl _ | omega | (simp; done) | (simp; omega) | (simp at *; omega))))⟩
                  | true =>
                    cases g2 : inB (r.V k).t 0 ((r.n : Int) - 1) with
                    | false =>
                      have HR : Hid (r.check = 2) := Lib.hid (chk_s HC.out HAB.out HAW.out HAK.out hlt (by unfold wsB; rw [g1, g2]; rfl))
                      go_wp2_with (go_at_call 89; refine (off_any _ _ _ _).mono ?_; rintro e w' ⟨rfl, rfl⟩)
                      go_ret
                      exact ⟨by rw [HR.out]; rfl, (by repeat (first | (with_reducible first | exact Below.refl _ _ | refine Below.drew ?_ | refine below_drewN ?_ _) | ((with_reducible first | refine Lc ?_ ?_ _ | refine Ls ?_ ?_ _ | refine Lv (by assumption) ?_ ?_); · first | exact Nat.le_refl _ | omega | (simp; done) | (simp; omega) | (simp at *; omega))))⟩
                    | true =>
                      have HU : Hid (wsB r k = true) := Lib.hid (by unfold wsB; rw [g1, g2]; rfl)
                      go_wp2_with (go_at_call 89; refine (off_any _ _ _ _).mono ?_; rintro e w' ⟨rfl, rfl⟩)
                      go_roundw
                      case rel => exact ⟨k + 1, by omega, by go_num, Lib.hid (all_put HALL.out HU.out), Lib.hid (by have h := HB.out; exact (by repeat (first | (with_reducible first | exact Below.refl _ _ | assumption | refine Below.drew ?_) | ((with_reducible first | refine Lc ?_ ?_ _ | refine Ls ?_ ?_ _ | refine Lv (by assumption) ?_ ?_); · first | exact Nat.le_refl _ | omega | (dsimp only; omega) | (simp only [World.size_alloc, World.size_drew, World.heap_drewN]; omega) | (simp; omega)))))⟩
                      case measure => simp [intOf]; omega
                · have hk' : k = r.m := by omega
                  have HAS : Hid (allN (wsB r) r.m = true) := Lib.hid (allN_iff.2 (by rw [← hk']; exact HALL.out))
                  have hge : ¬ (k : Int) < (r.m : Int) := by omega
                  clear HALL
                  go_wp2_with fail
                  clear a0 a1 a2 hyo
                  go_loopw [11] (fun i wr => ∃ k : Nat, k ≤ r.m ∧ i = .int .i64 k ∧ Hid (∀ j, j < k → woB r j = true) ∧ Hid (Below W1.heap.size W1 wr)) (fun i _ => r.m - (intOf i).toNat)
                  case atStart => exact ⟨0, Nat.zero_le _, rfl, Lib.hid (fun j hj => absurd hj (by omega)), HB⟩
                  case round =>
                    clear HB HY hsB hk' hge
                    obtain ⟨k, hk, rfl, HALL, HB⟩ := hrel
                    obtain ⟨wo, rfl⟩ : ∃ wo, wo = wr := ⟨_, rfl⟩
                    have HY : Hid (Below W.heap.size W wo) := Lib.hid (HB1.out.trans (HB.out.mono (by omega)))
                    have hyo := HY.out
                    obtain ⟨a0, a1, a2⟩ := HA.out.later HB.out
                    have hsB := HB.out.size
                    by_cases hlt : k < r.m
                    · obtain ⟨b, o, hbA, hbl, d0, d1, d2, d3⟩ := (H0.out.later HY.out).v k hlt
                      subst hbA
                      have hk0 : (0 : Int) ≤ (k : Int) := by omega
                      have hkn : (k : Int) < (r.m : Int) := by omega
                      have ek : IntKind.i64.wrap ((k : Int) + 1) = (k : Int) + 1 := IntWalk.i64_in _ (by omega)
                      by_cases g1 : (r.V k).f ≤ (r.V k).t
                      · have g2 : ¬ (r.V k).t < (r.V k).f := by omega
                        have HU : Hid (woB r k = true) := Lib.hid (by unfold woB; exact decide_eq_true g1)
                        clear g1
                        go_upto_region 34 with fail
                        have x0 := cell_regrown a2
                        have x1 := cell_regrown d0
                        have x2 := cell_regrown d1
                        clear a0 a1 a2 d0 d1 d2 d3 hyo
                        refine region_qbw (by kernel_rfl) (by kernel_rfl) ?_
                        repeat (first | go_big_quiet_step (fail) | quiet_step (fail))
                        refine wpQuiet_nil ?_; intro wq2 hbq
                        have hyq := Lib.hid (HY.out.trans (hbq.mono HY.out.size))
                        have hbw2 := Lib.hid (HB.out.trans (hbq.mono HB.out.size))
                        clear x0 x1 x2 hbq
                        go_wp2_with fail
                        go_roundw
                        case rel => exact ⟨k + 1, by omega, by go_num, Lib.hid (all_put HALL.out HU.out), hbw2⟩
                        case measure => simp [intOf]; omega
                      · have g2 : (r.V k).t < (r.V k).f := by omega
                        have HR : Hid (r.check = 6) := Lib.hid (by rw [chk_o HC.out HAB.out HAW.out HAK.out HAS.out, if_pos (allF hlt (by unfold woB; exact decide_eq_false g1))])
                        clear g1
                        go_upto_region 34 with fail
                        have x0 := cell_regrown a2
                        have x1 := cell_regrown d0
                        have x2 := cell_regrown d1
                        clear a0 a1 a2 d0 d1 d2 d3 hyo
                        refine region_qbw (by kernel_rfl) (by kernel_rfl) ?_
                        repeat (first | go_big_quiet_step (fail) | quiet_step (fail))
                        refine wpQuiet_nil ?_; intro wq2 hbq
                        have hyq := Lib.hid (HY.out.trans (hbq.mono HY.out.size))
                        have hbw2 := Lib.hid (HB.out.trans (hbq.mono HB.out.size))
                        clear x0 x1 x2 hbq
                        go_wp2_with fail
                        go_ret
                        exact ⟨by rw [HR.out]; rfl, hyq.out⟩
                    · have hk' : k = r.m := by omega
                      have HAO : Hid (allN (woB r) r.m = true) := Lib.hid (allN_iff.2 (by rw [← hk']; exact HALL.out))
                      have hge : ¬ (k : Int) < (r.m : Int) := by omega
                      clear HALL
                      have HR : Hid (r.check = 0) := Lib.hid (by rw [chk_o HC.out HAB.out HAW.out HAK.out HAS.out, if_neg (by rw [HAO.out]; decide)])
                      go_wp2_with fail
                      go_ret
                      exact ⟨by rw [HR.out]; rfl, (by repeat (first | (with_reducible first | exact Below.refl _ _ | refine Below.drew ?_ | refine below_drewN ?_ _) | ((with_reducible first | refine Lc ?_ ?_ _ | refine Ls ?_ ?_ _ | refine Lv (by assumption) ?_ ?_); · first | exact Nat.le_refl _ | omega | (simp; done) | (simp; omega) | (simp at *; omega))))⟩

theorem rcheck_any (r : Rw) (bA dA vA : Option Addr) (bc dc vc : Nat) (W : World) (hr : RwRow W W.heap.size r bA bc dA dc vA vc) :
    Calls Tryz.prog 49 #[rwV bA r.n bc dA r.d dc vA r.m vc] W fun e W' => e = .returned (.int .i64 r.check) ∧ Below W.heap.size W W' := by
  by_cases hc : r.cntBad
  · have e : r.check = 3 := by unfold Rw.check; rw [if_pos (show ¬ (1 ≤ r.n ∧ r.n ≤ 6) ∨ 7 < r.d ∨ 10 < r.m from hc)]
    rw [e]
    exact rcheck_count r bA dA vA bc dc vc W hc
  · exact rcheck_in r bA dA vA bc dc vc W hr hc
end Go.Proofs.YtnnikeolgknfoaaGreat

set_option linter.unusedSimpArgs false
set_option linter.unusedVariables false
namespace Go.Proofs.YtnnikeolgknfoaaGreat
open Go.RowKit Go.Shelf

/-- two numbers in a box -/
structure I2 (w : World) (b : Nat) (x y : Int) : Prop where
  c0 : w.cell? ⟨b, 0, none⟩ = some (.int .i64 x)
  c1 : w.cell? ⟨b, 1, none⟩ = some (.int .i64 y)
  f0 : w.frozen? ⟨b, 0, none⟩ = false
  f1 : w.frozen? ⟨b, 1, none⟩ = false
theorem I2.same {w w' : World} {b : Nat} {x y : Int} (h : I2 w b x y) (hs : w'.heap[b]? = w.heap[b]?) : I2 w' b x y := ⟨cell_same hs h.c0, cell_same hs h.c1, fro_same hs h.f0, fro_same hs h.f1⟩
theorem I2.lt {w : World} {b : Nat} {x y : Int} (h : I2 w b x y) : b < w.heap.size := World.block_lt_of_cell? w _ h.c0
theorem I2.set {w : World} {b : Nat} {x y : Int} (h : I2 w b x y) (p q : Int) : I2 ((w.setCell ⟨b, 0, none⟩ (.int .i64 p)).setCell ⟨b, 1, none⟩ (.int .i64 q)) b p q := by
  obtain ⟨c0, c1, f0, f1⟩ := h
  exact ⟨by simp [go_sem, c0, c1], by simp [go_sem, c0, c1], Fs _ (Fs _ f0), Fs _ (Fs _ f1)⟩
theorem I2.set' {w : World} {b : Nat} {x y : Int} (h : I2 w b x y) (p q : Int) : I2 ((w.setCell ⟨b, 1, none⟩ (.int .i64 q)).setCell ⟨b, 0, none⟩ (.int .i64 p)) b p q := by
  obtain ⟨c0, c1, f0, f1⟩ := h
  exact ⟨by simp [go_sem, c0, c1], by simp [go_sem, c0, c1], Fs _ (Fs _ f0), Fs _ (Fs _ f1)⟩
/-- what the reference's span has added -/
structure SnAt (W w : World) (r : Rw) (b : Nat) (bA : Option Addr) (bc : Nat) (dA : Option Addr) (dc : Nat) (vA : Option Addr) (vc : Nat) (x y : Int) : Prop where
  a : RwAt w W.heap.size r bA bc dA dc vA vc
  z : I2 w (W.heap.size + 1) 0 0
  o : I2 w (W.heap.size + 2) x y
  l : Below W.heap.size W w
theorem SnAt.later {W w w' : World} {r : Rw} {b : Nat} {bA : Option Addr} {bc : Nat} {dA : Option Addr} {dc : Nat} {vA : Option Addr} {vc : Nat} {x y : Int} (h : SnAt W w r b bA bc dA dc vA vc x y) (hb : Below w.heap.size w w') : SnAt W w' r b bA bc dA dc vA vc x y :=
  ⟨h.a.later hb, h.z.same (hb.block _ h.z.lt), h.o.same (hb.block _ h.o.lt), h.l.trans (hb.mono h.l.size)⟩
theorem SnAt.put {W w : World} {r : Rw} {b : Nat} {bA : Option Addr} {bc : Nat} {dA : Option Addr} {dc : Nat} {vA : Option Addr} {vc : Nat} {x y : Int} (h : SnAt W w r b bA bc dA dc vA vc x y) (p q : Int) : SnAt W ((w.setCell ⟨W.heap.size + 2, 0, none⟩ (.int .i64 p)).setCell ⟨W.heap.size + 2, 1, none⟩ (.int .i64 q)) r b bA bc dA dc vA vc p q := by
  have hk : ∀ i, i ≠ W.heap.size + 2 → ((w.setCell ⟨W.heap.size + 2, 0, none⟩ (.int .i64 p)).setCell ⟨W.heap.size + 2, 1, none⟩ (.int .i64 q)).heap[i]? = w.heap[i]? := fun i hi => (set_heap _ (by exact hi)).trans (set_heap _ (by exact hi))
  exact ⟨h.a.same (hk _ (by omega)), h.z.same (hk _ (by omega)), h.o.set p q, (h.l.setCell (by dsimp only; omega) _).setCell (by dsimp only; omega) _⟩
theorem SnAt.put' {W w : World} {r : Rw} {b : Nat} {bA : Option Addr} {bc : Nat} {dA : Option Addr} {dc : Nat} {vA : Option Addr} {vc : Nat} {x y : Int} (h : SnAt W w r b bA bc dA dc vA vc x y) (p q : Int) : SnAt W ((w.setCell ⟨W.heap.size + 2, 1, none⟩ (.int .i64 q)).setCell ⟨W.heap.size + 2, 0, none⟩ (.int .i64 p)) r b bA bc dA dc vA vc p q := by
  have hk : ∀ i, i ≠ W.heap.size + 2 → ((w.setCell ⟨W.heap.size + 2, 1, none⟩ (.int .i64 q)).setCell ⟨W.heap.size + 2, 0, none⟩ (.int .i64 p)).heap[i]? = w.heap[i]? := fun i hi => (set_heap _ (by exact hi)).trans (set_heap _ (by exact hi))
  exact ⟨h.a.same (hk _ (by omega)), h.z.same (hk _ (by omega)), h.o.set' p q, (h.l.setCell (by dsimp only; omega) _).setCell (by dsimp only; omega) _⟩

set_option maxRecDepth 100000 in
set_option maxHeartbeats 8000000 in
theorem rspan_any (r : Rw) (hr : r.ok) (b : Nat) (hb : b < r.n) (bA dA vA : Option Addr) (bc dc vc : Nat) (W : World) (hrow : RwRow W W.heap.size r bA bc dA dc vA vc) :
    Calls Tryz.prog 93 #[rwV bA r.n bc dA r.d dc vA r.m vc, .int .i64 (b : Int)] W fun e W' => e = .returned (spV (r.sp b)) ∧ Below W.heap.size W W' := by
  have H0 := Lib.hid hrow
  have HK := Lib.hid hr.k
  have hbo := hr.b b hb
  have HG := Lib.hid hbo.g
  have hd7 := hr.d7
  have hsp : r.sp b = ⟨(r.B b).tot (r.B b).lo r.D (r.d - (r.B b).s.toNat), (r.B b).tot (r.B b).hi r.D (r.d - (r.B b).s.toNat)⟩ := rfl
  obtain ⟨s, hs⟩ := Int.eq_ofNat_of_zero_le hbo.s.1
  have HS := Lib.hid hs
  rw [hs, Int.toNat_natCast] at hsp
  have HSP := Lib.hid hsp
  have hb0 : (0 : Int) ≤ (b : Int) := by omega
  have hbn : (b : Int) < (r.n : Int) := by omega
  clear hrow hr hbo hsp hs
  go_enter Tryz.func93, Tryz.ntmps93
  go_upto_region 2 with fail
  refine wp_world (fun w' => SnAt W w' r b bA bc dA dc vA vc 0 0) ⟨⟨(by (repeat' refine And.intro ?_ ?_) <;> (repeat (first | with_reducible assumption | (simp; done) | (with_reducible first | refine Kd ?_ | refine Kn ?_ | refine Kb (by assumption) ?_) | ((with_reducible first | refine Kw ?_ ?_ | refine Fw ?_) <;> first | with_reducible rfl | (simp; done)) | (with_reducible first | refine Ka _ ?_ | refine Ks _ (by first | exact Nat.le_refl _ | omega | (simp; done) | (simp; omega)) ?_ | refine Fd ?_ | refine Fn ?_ | refine Fb (by assumption) (by first | exact Nat.le_refl _ | omega | (simp; done) | (simp; omega)) ?_ | refine Fa _ (by first | exact Nat.le_refl _ | omega | (simp; done) | (simp; omega)) ?_ | refine Fs _ ?_)))), (by (repeat' refine And.intro ?_ ?_) <;> (repeat (first | with_reducible assumption | (simp; done) | (with_reducible first | refine Kd ?_ | refine Kn ?_ | refine Kb (by assumption) ?_) | ((with_reducible first | refine Kw ?_ ?_ | refine Fw ?_) <;> first | with_reducible rfl | (simp; done)) | (with_reducible first | refine Ka _ ?_ | refine Ks _ (by first | exact Nat.le_refl _ | omega | (simp; done) | (simp; omega)) ?_ | refine Fd ?_ | refine Fn ?_ | refine Fb (by assumption) (by first | exact Nat.le_refl _ | omega | (simp; done) | (simp; omega)) ?_ | refine Fa _ (by first | exact Nat.le_refl _ | omega | (simp; done) | (simp; omega)) ?_ | refine Fs _ ?_)))), (by (repeat' refine And.intro ?_ ?_) <;> (repeat (first | with_reducible assumption | (simp; done) | (with_reducible first | refine Kd ?_ | refine Kn ?_ | refine Kb (by assumption) ?_) | ((with_reducible first | refine Kw ?_ ?_ | refine Fw ?_) <;> first | with_reducible rfl | (simp; done)) | (with_reducible first | refine Ka _ ?_ | refine Ks _ (by first | exact Nat.le_refl _ | omega | (simp; done) | (simp; omega)) ?_ | refine Fd ?_ | refine Fn ?_ | refine Fb (by assumption) (by first | exact Nat.le_refl _ | omega | (simp; done) | (simp; omega)) ?_ | refine Fa _ (by first | exact Nat.le_refl _ | omega | (simp; done) | (simp; omega)) ?_ | refine Fs _ ?_))))⟩, ⟨(by (repeat' refine And.intro ?_ ?_) <;> (repeat (first | with_reducible assumption | (simp; done) | (with_reducible first | refine Kd ?_ | refine Kn ?_ | refine Kb (by assumption) ?_) | ((with_reducible first | refine Kw ?_ ?_ | refine Fw ?_) <;> first | with_reducible rfl | (simp; done)) | (with_reducible first | refine Ka _ ?_ | refine Ks _ (by first | exact Nat.le_refl _ | omega | (simp; done) | (simp; omega)) ?_ | refine Fd ?_ | refine Fn ?_ | refine Fb (by assumption) (by first | exact Nat.le_refl _ | omega | (simp; done) | (simp; omega)) ?_ | refine Fa _ (by first | exact Nat.le_refl _ | omega | (simp; done) | (simp; omega)) ?_ | refine Fs _ ?_)))), (by (repeat' refine And.intro ?_ ?_) <;> (repeat (first | with_reducible assumption | (simp; done) | (with_reducible first | refine Kd ?_ | refine Kn ?_ | refine Kb (by assumption) ?_) | ((with_reducible first | refine Kw ?_ ?_ | refine Fw ?_) <;> first | with_reducible rfl | (simp; done)) | (with_reducible first | refine Ka _ ?_ | refine Ks _ (by first | exact Nat.le_refl _ | omega | (simp; done) | (simp; omega)) ?_ | refine Fd ?_ | refine Fn ?_ | refine Fb (by assumption) (by first | exact Nat.le_refl _ | omega | (simp; done) | (simp; omega)) ?_ | refine Fa _ (by first | exact Nat.le_refl _ | omega | (simp; done) | (simp; omega)) ?_ | refine Fs _ ?_)))), (by (repeat' refine And.intro ?_ ?_) <;> (repeat (first | with_reducible assumption | (simp; done) | (with_reducible first | refine Kd ?_ | refine Kn ?_ | refine Kb (by assumption) ?_) | ((with_reducible first | refine Kw ?_ ?_ | refine Fw ?_) <;> first | with_reducible rfl | (simp; done)) | (with_reducible first | refine Ka _ ?_ | refine Ks _ (by first | exact Nat.le_refl _ | omega | (simp; done) | (simp; omega)) ?_ | refine Fd ?_ | refine Fn ?_ | refine Fb (by assumption) (by first | exact Nat.le_refl _ | omega | (simp; done) | (simp; omega)) ?_ | refine Fa _ (by first | exact Nat.le_refl _ | omega | (simp; done) | (simp; omega)) ?_ | refine Fs _ ?_)))), (by (repeat' refine And.intro ?_ ?_) <;> (repeat (first | with_reducible assumption | (simp; done) | (with_reducible first | refine Kd ?_ | refine Kn ?_ | refine Kb (by assumption) ?_) | ((with_reducible first | refine Kw ?_ ?_ | refine Fw ?_) <;> first | with_reducible rfl | (simp; done)) | (with_reducible first | refine Ka _ ?_ | refine Ks _ (by first | exact Nat.le_refl _ | omega | (simp; done) | (simp; omega)) ?_ | refine Fd ?_ | refine Fn ?_ | refine Fb (by assumption) (by first | exact Nat.le_refl _ | omega | (simp; done) | (simp; omega)) ?_ | refine Fa _ (by first | exact Nat.le_refl _ | omega | (simp; done) | (simp; omega)) ?_ | refine Fs _ ?_))))⟩, ⟨(by (repeat' refine And.intro ?_ ?_) <;> (repeat (first | with_reducible assumption | (simp; done) | (with_reducible first | refine Kd ?_ | refine Kn ?_ | refine Kb (by assumption) ?_) | ((with_reducible first | refine Kw ?_ ?_ | refine Fw ?_) <;> first | with_reducible rfl | (simp; done)) | (with_reducible first | refine Ka _ ?_ | refine Ks _ (by first | exact Nat.le_refl _ | omega | (simp; done) | (simp; omega)) ?_ | refine Fd ?_ | refine Fn ?_ | refine Fb (by assumption) (by first | exact Nat.le_refl _ | omega | (simp; done) | (simp; omega)) ?_ | refine Fa _ (by first | exact Nat.le_refl _ | omega | (simp; done) | (simp; omega)) ?_ | refine Fs _ ?_)))), (by (repeat' refine And.intro ?_ ?_) <;> (repeat (first | with_reducible assumption | (simp; done) | (with_reducible first | refine Kd ?_ | refine Kn ?_ | refine Kb (by assumption) ?_) | ((with_reducible first | refine Kw ?_ ?_ | refine Fw ?_) <;> first | with_reducible rfl | (simp; done)) | (with_reducible first | refine Ka _ ?_ | refine Ks _ (by first | exact Nat.le_refl _ | omega | (simp; done) | (simp; omega)) ?_ | refine Fd ?_ | refine Fn ?_ | refine Fb (by assumption) (by first | exact Nat.le_refl _ | omega | (simp; done) | (simp; omega)) ?_ | refine Fa _ (by first | exact Nat.le_refl _ | omega | (simp; done) | (simp; omega)) ?_ | refine Fs _ ?_)))), (by (repeat' refine And.intro ?_ ?_) <;> (repeat (first | with_reducible assumption | (simp; done) | (with_reducible first | refine Kd ?_ | refine Kn ?_ | refine Kb (by assumption) ?_) | ((with_reducible first | refine Kw ?_ ?_ | refine Fw ?_) <;> first | with_reducible rfl | (simp; done)) | (with_reducible first | refine Ka _ ?_ | refine Ks _ (by first | exact Nat.le_refl _ | omega | (simp; done) | (simp; omega)) ?_ | refine Fd ?_ | refine Fn ?_ | refine Fb (by assumption) (by first | exact Nat.le_refl _ | omega | (simp; done) | (simp; omega)) ?_ | refine Fa _ (by first | exact Nat.le_refl _ | omega | (simp; done) | (simp; omega)) ?_ | refine Fs _ ?_)))), (by (repeat' refine And.intro ?_ ?_) <;> (repeat (first | with_reducible assumption | (simp; done) | (with_reducible first | refine Kd ?_ | refine Kn ?_ | refine Kb (by assumption) ?_) | ((with_reducible first | refine Kw ?_ ?_ | refine Fw ?_) <;> first | with_reducible rfl | (simp; done)) | (with_reducible first | refine Ka _ ?_ | refine Ks _ (by first | exact Nat.le_refl _ | omega | (simp; done) | (simp; omega)) ?_ | refine Fd ?_ | refine Fn ?_ | refine Fb (by assumption) (by first | exact Nat.le_refl _ | omega | (simp; done) | (simp; omega)) ?_ | refine Fa _ (by first | exact Nat.le_refl _ | omega | (simp; done) | (simp; omega)) ?_ | refine Fs _ ?_))))⟩, (by repeat (first | (with_reducible first | exact Below.refl _ _ | assumption | refine Below.drew ?_) | ((with_reducible first | refine Lc ?_ ?_ _ | refine Ls ?_ ?_ _ | refine Lv (by assumption) ?_ ?_); · first | exact Nat.le_refl _ | omega | (dsimp only; omega) | (simp only [World.size_alloc, World.size_drew, World.heap_drewN]; omega) | (simp; omega))))⟩ ?_
  rintro w1 h1
  have HS1 := Lib.hid h1
  clear h1
  go_wp2_with fail
  go_loopw [6] (fun i wr => ∃ (k : Nat) (x y : Int), k ≤ r.d ∧ i = .int .i64 k ∧ Hid (x = (r.B b).tot (r.B b).lo r.D (k - s) ∧ y = (r.B b).tot (r.B b).hi r.D (k - s)) ∧ (0 ≤ x ∧ x ≤ 50 * (k : Int) ∧ 0 ≤ y ∧ y ≤ 50 * (k : Int)) ∧ Hid (SnAt W wr r b bA bc dA dc vA vc x y)) (fun i _ => r.d - (intOf i).toNat)
  case atStart => exact ⟨0, 0, 0, Nat.zero_le _, rfl, Lib.hid (by rw [Nat.zero_sub]; exact ⟨rfl, rfl⟩), by omega, HS1⟩
  case round =>
    clear HS1
    obtain ⟨k, x, y, hk, rfl, HXY, hxy, HN⟩ := hrel
    obtain ⟨wo, rfl⟩ : ∃ wo, wo = wr := ⟨_, rfl⟩
    obtain ⟨a0, a1, a2⟩ := HN.out.a
    have hol := HN.out.o.lt
    by_cases hlt : k < r.d
    · have hk0 : (0 : Int) ≤ (k : Int) := by omega
      have hkn : (k : Int) < (r.d : Int) := by omega
      have ek : IntKind.i64.wrap ((k : Int) + 1) = (k : Int) + 1 := IntWalk.i64_in _ (by omega)
      obtain ⟨g, o, hbA, hbl, d0, d1, d2, d3, d4, d5, d6⟩ := (H0.out.later HN.out.l).b b hb
      subst hbA
      rw [HS.out] at d6
      by_cases hge : s ≤ k
      · have hge' : (s : Int) ≤ (k : Int) := by omega
        obtain ⟨dg, od, hdA, hdl, e0⟩ := (H0.out.later HN.out.l).d k hlt
        subst hdA
        have hkd := HK.out k hlt
        obtain ⟨K, hKd⟩ : ∃ K : Nat, r.D k = K := Int.eq_ofNat_of_zero_le hkd.1
        rw [hKd] at e0 hkd
        have h3 : K = 0 ∨ K = 1 ∨ K = 2 := by omega
        have hst : ∀ e : Nat → Int, (r.B b).tot e r.D (k + 1 - s) = (r.B b).tot e r.D (k - s) + e K := fun e => by
          rw [show k + 1 - s = (k - s) + 1 by omega]
          show (r.B b).tot e r.D (k - s) + e (r.D ((r.B b).s.toNat + (k - s))).toNat = _
          rw [show (r.B b).s.toNat + (k - s) = k by rw [HS.out]; omega, hKd, Int.toNat_natCast]
        have HST := Lib.hid hst
        clear hst hKd hge
        rcases h3 with rfl | rfl | rfl
        · have hg := HG.out 0 (by omega)
          obtain ⟨p1, hp1⟩ : ∃ p, p = (r.B b).lo 0 := ⟨_, rfl⟩
          obtain ⟨p2, hp2⟩ : ∃ p, p = (r.B b).hi 0 := ⟨_, rfl⟩
          rw [← hp1] at d0 hg
          rw [← hp2] at d1 hg
          have HP := Lib.hid (And.intro hp1 hp2)
          have w1 : IntKind.i64.wrap (x + p1) = x + p1 := IntWalk.i64_in _ (by omega)
          have w2 : IntKind.i64.wrap (y + p2) = y + p2 := IntWalk.i64_in _ (by omega)
          clear hp1 hp2
          go_upto_region 6 with fail
          go_region
          all_goals
            go_upto_region 7 with fail
            refine wp_world (fun w' => SnAt W w' r b (some ⟨g, o, none⟩) bc (some ⟨dg, od, none⟩) dc vA vc x y ∧ I2 w' wo.heap.size p1 p2) ⟨HN.out.later (by repeat (first | (with_reducible first | exact Below.refl _ _ | assumption | refine Below.drew ?_) | ((with_reducible first | refine Lc ?_ ?_ _ | refine Ls ?_ ?_ _ | refine Lv (by assumption) ?_ ?_); · first | exact Nat.le_refl _ | omega | (dsimp only; omega) | (simp only [World.size_alloc, World.size_drew, World.heap_drewN]; omega) | (simp; omega)))), ⟨by first | (simp [go_sem]; done) | exact (by (repeat' refine And.intro ?_ ?_) <;> (repeat (first | with_reducible assumption | (simp; done) | (with_reducible first | refine Kd ?_ | refine Kn ?_ | refine Kb (by assumption) ?_) | ((with_reducible first | refine Kw ?_ ?_ | refine Fw ?_) <;> first | with_reducible rfl | (simp; done)) | (with_reducible first | refine Ka _ ?_ | refine Ks _ (by first | exact Nat.le_refl _ | omega | (simp; done) | (simp; omega)) ?_ | refine Fd ?_ | refine Fn ?_ | refine Fb (by assumption) (by first | exact Nat.le_refl _ | omega | (simp; done) | (simp; omega)) ?_ | refine Fa _ (by first | exact Nat.le_refl _ | omega | (simp; done) | (simp; omega)) ?_ | refine Fs _ ?_)))), by first | (simp [go_sem]; done) | exact (by (repeat' refine And.intro ?_ ?_) <;> (repeat (first | with_reducible assumption | (simp; done) | (with_reducible first | refine Kd ?_ | refine Kn ?_ | refine Kb (by assumption) ?_) | ((with_reducible first | refine Kw ?_ ?_ | refine Fw ?_) <;> first | with_reducible rfl | (simp; done)) | (with_reducible first | refine Ka _ ?_ | refine Ks _ (by first | exact Nat.le_refl _ | omega | (simp; done) | (simp; omega)) ?_ | refine Fd ?_ | refine Fn ?_ | refine Fb (by assumption) (by first | exact Nat.le_refl _ | omega | (simp; done) | (simp; omega)) ?_ | refine Fa _ (by first | exact Nat.le_refl _ | omega | (simp; done) | (simp; omega)) ?_ | refine Fs _ ?_)))), by first | (simp [go_sem]; done) | exact (by (repeat' refine And.intro ?_ ?_) <;> (repeat (first | with_reducible assumption | (simp; done) | (with_reducible first | refine Kd ?_ | refine Kn ?_ | refine Kb (by assumption) ?_) | ((with_reducible first | refine Kw ?_ ?_ | refine Fw ?_) <;> first | with_reducible rfl | (simp; done)) | (with_reducible first | refine Ka _ ?_ | refine Ks _ (by first | exact Nat.le_refl _ | omega | (simp; done) | (simp; omega)) ?_ | refine Fd ?_ | refine Fn ?_ | refine Fb (by assumption) (by first | exact Nat.le_refl _ | omega | (simp; done) | (simp; omega)) ?_ | refine Fa _ (by first | exact Nat.le_refl _ | omega | (simp; done) | (simp; omega)) ?_ | refine Fs _ ?_)))), by first | (simp [go_sem]; done) | exact (by (repeat' refine And.intro ?_ ?_) <;> (repeat (first | with_reducible assumption | (simp; done) | (with_reducible first | refine Kd ?_ | refine Kn ?_ | refine Kb (by assumption) ?_) | ((with_reducible first | refine Kw ?_ ?_ | refine Fw ?_) <;> first | with_reducible rfl | (simp; done)) | (with_reducible first | refine Ka _ ?_ | refine Ks _ (by first | exact Nat.le_refl _ | omega | (simp; done) | (simp; omega)) ?_ | refine Fd ?_ | refine Fn ?_ | refine Fb (by assumption) (by first | exact Nat.le_refl _ | omega | (simp; done) | (simp; omega)) ?_ | refine Fa _ (by first | exact Nat.le_refl _ | omega | (simp; done) | (simp; omega)) ?_ | refine Fs _ ?_))))⟩⟩ ?_
            rintro w5 ⟨hn5, hv5⟩
            have HN5 := Lib.hid hn5
            have hol5 := hv5.lt
            obtain ⟨v0, v1, -, -⟩ := hv5
            obtain ⟨o0, o1, q0, q1⟩ := hn5.o
            clear hn5 a0 a1 a2 d0 d1 d2 d3 d4 d5 d6 e0
            go_region
            all_goals
              go_wp2_with fail
              go_roundw
              case rel => exact ⟨k + 1, x + p1, y + p2, by omega, by go_num, Lib.hid (by rw [HST.out, HST.out, HXY.out.1, HXY.out.2, HP.out.1, HP.out.2]; exact ⟨rfl, rfl⟩), by omega, Lib.hid (by first | exact (HN5.out.put _ _).later ((Below.refl _ _).drew) | exact HN5.out.put _ _ | exact (HN5.out.put' _ _).later ((Below.refl _ _).drew) | exact HN5.out.put' _ _)⟩
              case measure => simp [intOf]; omega
        · have hg := HG.out 1 (by omega)
          obtain ⟨p1, hp1⟩ : ∃ p, p = (r.B b).lo 1 := ⟨_, rfl⟩
          obtain ⟨p2, hp2⟩ : ∃ p, p = (r.B b).hi 1 := ⟨_, rfl⟩
          rw [← hp1] at d2 hg
          rw [← hp2] at d3 hg
          have HP := Lib.hid (And.intro hp1 hp2)
          have w1 : IntKind.i64.wrap (x + p1) = x + p1 := IntWalk.i64_in _ (by omega)
          have w2 : IntKind.i64.wrap (y + p2) = y + p2 := IntWalk.i64_in _ (by omega)
          clear hp1 hp2
          go_upto_region 6 with fail
          go_region
          all_goals
            go_upto_region 7 with fail
            refine wp_world (fun w' => SnAt W w' r b (some ⟨g, o, none⟩) bc (some ⟨dg, od, none⟩) dc vA vc x y ∧ I2 w' wo.heap.size p1 p2) ⟨HN.out.later (by repeat (first | (with_reducible first | exact Below.refl _ _ | assumption | refine Below.drew ?_) | ((with_reducible first | refine Lc ?_ ?_ _ | refine Ls ?_ ?_ _ | refine Lv (by assumption) ?_ ?_); · first | exact Nat.le_refl _ | omega | (dsimp only; omega) | (simp only [World.size_alloc, World.size_drew, World.heap_drewN]; omega) | (simp; omega)))), ⟨by first | (simp [go_sem]; done) | exact (by (repeat' refine And.intro ?_ ?_) <;> (repeat (first | with_reducible assumption | (simp; done) | (with_reducible first | refine Kd ?_ | refine Kn ?_ | refine Kb (by assumption) ?_) | ((with_reducible first | refine Kw ?_ ?_ | refine Fw ?_) <;> first | with_reducible rfl | (simp; done)) | (with_reducible first | refine Ka _ ?_ | refine Ks _ (by first | exact Nat.le_refl _ | omega | (simp; done) | (simp; omega)) ?_ | refine Fd ?_ | refine Fn ?_ | refine Fb (by assumption) (by first | exact Nat.le_refl _ | omega | (simp; done) | (simp; omega)) ?_ | refine Fa _ (by first | exact Nat.le_refl _ | omega | (simp; done) | (simp; omega)) ?_ | refine Fs _ ?_)))), by first | (simp [go_sem]; done) | exact (by (repeat' refine And.intro ?_ ?_) <;> (repeat (first | with_reducible assumption | (simp; done) | (with_reducible first | refine Kd ?_ | refine Kn ?_ | refine Kb (by assumption) ?_) | ((with_reducible first | refine Kw ?_ ?_ | refine Fw ?_) <;> first | with_reducible rfl | (simp; done)) | (with_reducible first | refine Ka _ ?_ | refine Ks _ (by first | exact Nat.le_refl _ | omega | (simp; done) | (simp; omega)) ?_ | refine Fd ?_ | refine Fn ?_ | refine Fb (by assumption) (by first | exact Nat.le_refl _ | omega | (simp; done) | (simp; omega)) ?_ | refine Fa _ (by first | exact Nat.le_refl _ | omega | (simp; done) | (simp; omega)) ?_ | refine Fs _ ?_)))), by first | (simp [go_sem]; done) | exact (by (repeat' refine And.intro ?_ ?_) <;> (repeat (first | with_reducible assumption | (simp; done) | (with_reducible first | refine Kd ?_ | refine Kn ?_ | refine Kb (by assumption) ?_) | ((with_reducible first | refine Kw ?_ ?_ | refine Fw ?_) <;> first | with_reducible rfl | (simp; done)) | (with_reducible first | refine Ka _ ?_ | refine Ks _ (by first | exact Nat.le_refl _ | omega | (simp; done) | (simp; omega)) ?_ | refine Fd ?_ | refine Fn ?_ | refine Fb (by assumption) (by first | exact Nat.le_refl _ | omega | (simp; done) | (simp; omega)) ?_ | refine Fa _ (by first | exact Nat.le_refl _ | omega | (simp; done) | (simp; omega)) ?_ | refine Fs _ ?_)))), by first | (simp [go_sem]; done) | exact (by (repeat' refine And.intro ?_ ?_) <;> (repeat (first | with_reducible assumption | (simp; done) | (with_reducible first | refine Kd ?_ | refine Kn ?_ | refine Kb (by assumption) ?_) | ((with_reducible first | refine Kw ?_ ?_ | refine Fw ?_) <;> first | with_reducible rfl | (simp; done)) | (with_reducible first | refine Ka _ ?_ | refine Ks _ (by first | exact Nat.le_refl _ | omega | (simp; done) | (simp; omega)) ?_ | refine Fd ?_ | refine Fn ?_ | refine Fb (by assumption) (by first | exact Nat.le_refl _ | omega | (simp; done) | (simp; omega)) ?_ | refine Fa _ (by first | exact Nat.le_refl _ | omega | (simp; done) | (simp; omega)) ?_ | refine Fs _ ?_))))⟩⟩ ?_
            rintro w5 ⟨hn5, hv5⟩
            have HN5 := Lib.hid hn5
            have hol5 := hv5.lt
            obtain ⟨v0, v1, -, -⟩ := hv5
            obtain ⟨o0, o1, q0, q1⟩ := hn5.o
            clear hn5 a0 a1 a2 d0 d1 d2 d3 d4 d5 d6 e0
            go_region
            all_goals
              go_wp2_with fail
              go_roundw
              case rel => exact ⟨k + 1, x + p1, y + p2, by omega, by go_num, Lib.hid (by rw [HST.out, HST.out, HXY.out.1, HXY.out.2, HP.out.1, HP.out.2]; exact ⟨rfl, rfl⟩), by omega, Lib.hid (by first | exact (HN5.out.put _ _).later ((Below.refl _ _).drew) | exact HN5.out.put _ _ | exact (HN5.out.put' _ _).later ((Below.refl _ _).drew) | exact HN5.out.put' _ _)⟩
              case measure => simp [intOf]; omega
        · have hg := HG.out 2 (by omega)
          obtain ⟨p1, hp1⟩ : ∃ p, p = (r.B b).lo 2 := ⟨_, rfl⟩
          obtain ⟨p2, hp2⟩ : ∃ p, p = (r.B b).hi 2 := ⟨_, rfl⟩
          rw [← hp1] at d4 hg
          rw [← hp2] at d5 hg
          have HP := Lib.hid (And.intro hp1 hp2)
          have w1 : IntKind.i64.wrap (x + p1) = x + p1 := IntWalk.i64_in _ (by omega)
          have w2 : IntKind.i64.wrap (y + p2) = y + p2 := IntWalk.i64_in _ (by omega)
          clear hp1 hp2
          go_upto_region 6 with fail
          go_region
          all_goals
            go_upto_region 7 with fail
            refine wp_world (fun w' => SnAt W w' r b (some ⟨g, o, none⟩) bc (some ⟨dg, od, none⟩) dc vA vc x y ∧ I2 w' wo.heap.size p1 p2) ⟨HN.out.later (by repeat (first | (with_reducible first | exact Below.refl _ _ | assumption | refine Below.drew ?_) | ((with_reducible first | refine Lc ?_ ?_ _ | refine Ls ?_ ?_ _ | refine Lv (by assumption) ?_ ?_); · first | exact Nat.le_refl _ | omega | (dsimp only; omega) | (simp only [World.size_alloc, World.size_drew, World.heap_drewN]; omega) | (simp; omega)))), ⟨by first | (simp [go_sem]; done) | exact (by (repeat' refine And.intro ?_ ?_) <;> (repeat (first | with_reducible assumption | (simp; done) | (with_reducible first | refine Kd ?_ | refine Kn ?_ | refine Kb (by assumption) ?_) | ((with_reducible first | refine Kw ?_ ?_ | refine Fw ?_) <;> first | with_reducible rfl | (simp; done)) | (with_reducible first | refine Ka _ ?_ | refine Ks _ (by first | exact Nat.le_refl _ | omega | (simp; done) | (simp; omega)) ?_ | refine Fd ?_ | refine Fn ?_ | refine Fb (by assumption) (by first | exact Nat.le_refl _ | omega | (simp; done) | (simp; omega)) ?_ | refine Fa _ (by first | exact Nat.le_refl _ | omega | (simp; done) | (simp; omega)) ?_ | refine Fs _ ?_)))), by first | (simp [go_sem]; done) | exact (by (repeat' refine And.intro ?_ ?_) <;> (repeat (first | with_reducible assumption | (simp; done) | (with_reducible first | refine Kd ?_ | refine Kn ?_ | refine Kb (by assumption) ?_) | ((with_reducible first | refine Kw ?_ ?_ | refine Fw ?_) <;> first | with_reducible rfl | (simp; done)) | (with_reducible first | refine Ka _ ?_ | refine Ks _ (by first | exact Nat.le_refl _ | omega | (simp; done) | (simp; omega)) ?_ | refine Fd ?_ | refine Fn ?_ | refine Fb (by assumption) (by first | exact Nat.le_refl _ | omega | (simp; done) | (simp; omega)) ?_ | refine Fa _ (by first | exact Nat.le_refl _ | omega | (simp; done) | (simp; omega)) ?_ | refine Fs _ ?_)))), by first | (simp [go_sem]; done) | exact (by (repeat' refine And.intro ?_ ?_) <;> (repeat (first | with_reducible assumption | (simp; done) | (with_reducible first | refine Kd ?_ | refine Kn ?_ | refine Kb (by assumption) ?_) | ((with_reducible first | refine Kw ?_ ?_ | refine Fw ?_) <;> first | with_reducible rfl | (simp; done)) | (with_reducible first | refine Ka _ ?_ | refine Ks _ (by first | exact Nat.le_refl _ | omega | (simp; done) | (simp; omega)) ?_ | refine Fd ?_ | refine Fn ?_ | refine Fb (by assumption) (by first | exact Nat.le_refl _ | omega | (simp; done) | (simp; omega)) ?_ | refine Fa _ (by first | exact Nat.le_refl _ | omega | (simp; done) | (simp; omega)) ?_ | refine Fs _ ?_)))), by first | (simp [go_sem]; done) | exact (by (repeat' refine And.intro ?_ ?_) <;> (repeat (first | with_reducible assumption | (simp; done) | (with_reducible first | refine Kd ?_ | refine Kn ?_ | refine Kb (by assumption) ?_) | ((with_reducible first | refine Kw ?_ ?_ | refine Fw ?_) <;> first | with_reducible rfl | (simp; done)) | (with_reducible first | refine Ka _ ?_ | refine Ks _ (by first | exact Nat.le_refl _ | omega | (simp; done) | (simp; omega)) ?_ | refine Fd ?_ | refine Fn ?_ | refine Fb (by assumption) (by first | exact Nat.le_refl _ | omega | (simp; done) | (simp; omega)) ?_ | refine Fa _ (by first | exact Nat.le_refl _ | omega | (simp; done) | (simp; omega)) ?_ | refine Fs _ ?_))))⟩⟩ ?_
            rintro w5 ⟨hn5, hv5⟩
            have HN5 := Lib.hid hn5
            have hol5 := hv5.lt
            obtain ⟨v0, v1, -, -⟩ := hv5
            obtain ⟨o0, o1, q0, q1⟩ := hn5.o
            clear hn5 a0 a1 a2 d0 d1 d2 d3 d4 d5 d6 e0
            go_region
            all_goals
              go_wp2_with fail
              go_roundw
              case rel => exact ⟨k + 1, x + p1, y + p2, by omega, by go_num, Lib.hid (by rw [HST.out, HST.out, HXY.out.1, HXY.out.2, HP.out.1, HP.out.2]; exact ⟨rfl, rfl⟩), by omega, Lib.hid (by first | exact (HN5.out.put _ _).later ((Below.refl _ _).drew) | exact HN5.out.put _ _ | exact (HN5.out.put' _ _).later ((Below.refl _ _).drew) | exact HN5.out.put' _ _)⟩
              case measure => simp [intOf]; omega
      · have hge' : ¬ (s : Int) ≤ (k : Int) := by omega
        have e0 : k + 1 - s = k - s := by omega
        have HE0 := Lib.hid e0
        clear e0 hge
        go_wp2_with fail
        go_roundw
        case rel => exact ⟨k + 1, x, y, by omega, by go_num, by rw [HE0.out]; exact HXY, by omega, HN⟩
        case measure => simp [intOf]; omega
    · have hk' : k = r.d := by omega
      have hge : ¬ (k : Int) < (r.d : Int) := by omega
      have hx : (r.sp b) = ⟨x, y⟩ := by rw [HSP.out, ← hk', HXY.out.1, HXY.out.2]
      have HX := Lib.hid hx
      obtain ⟨z0, z1, g0, g1⟩ := HN.out.z
      obtain ⟨o0, o1, -, -⟩ := HN.out.o
      have HB := Lib.hid HN.out.l
      clear hx
      go_wp2_with fail
      refine bodyPost_ret (v := .agg #[.int .i64 x, .int .i64 y]) (by simp [results, Tryz.results93, go_sem, z0, z1]) rfl ⟨by rw [HX.out], ?_⟩
      exact (HB.out.setCell (by dsimp only; omega) _).setCell (by dsimp only; omega) _
end Go.Proofs.YtnnikeolgknfoaaGreat

set_option linter.unusedSimpArgs false
set_option linter.unusedVariables false
namespace Go.Proofs.YtnnikeolgknfoaaGreat
open Go.RowKit Go.Shelf

set_option maxRecDepth 100000 in
set_option maxHeartbeats 8000000 in
theorem rstep_any (r : Rw) (hr : r.ok) (f : Fc) (hf : r.has f) (bA dA vA : Option Addr) (bc dc vc : Nat) (W : World) (hrow : RwRow W W.heap.size r bA bc dA dc vA vc) :
    Calls Tryz.prog 136 #[rwV bA r.n bc dA r.d dc vA r.m vc, fcV f] W fun e W' => e = .returned (ldV r f) ∧ Below W.heap.size W W' := by
  have H0 := Lib.hid hrow
  have HOK := Lib.hid hr
  have hn6 := hr.n6
  have hm10 := hr.m10
  obtain ⟨w, i, m⟩ := f
  unfold Rw.has at hf
  dsimp only at hf
  obtain ⟨k, rfl⟩ := Int.eq_ofNat_of_zero_le hf.1
  have hk0 : (0 : Int) ≤ (k : Int) := by omega
  have hld : ldV r ⟨w, (k : Int), m⟩ = .tuple #[.int .i64 (r.from_ ⟨w, (k : Int), m⟩), .int .i64 (r.to_ ⟨w, (k : Int), m⟩), .int .i64 (r.num ⟨w, (k : Int), m⟩)] := rfl
  rw [hld]
  clear hld
  cases w with
  | true =>
    simp only [if_true] at hf
    have hkm : k < r.m := by omega
    have hkn : (k : Int) < (r.m : Int) := hf.2
    have hv := hr.v k hkm
    obtain ⟨hv1, hv2, hv3, hv4, hv5⟩ := hv
    obtain ⟨b, o, hbA, hbl, v0, v1, v2, v3⟩ := hrow.v k hkm
    subst hbA
    obtain ⟨X, hX⟩ : ∃ X, X = r.V k := ⟨_, rfl⟩
    rw [← hX] at hv1 hv2 hv3 hv4 hv5 v0 v1 v2 v3
    have w1 : IntKind.i64.wrap (X.t + 1) = X.t + 1 := IntWalk.i64_in _ (by omega)
    have w2 : IntKind.i64.wrap (X.p + X.e) = X.p + X.e := IntWalk.i64_in _ (by omega)
    have w3 : IntKind.i64.wrap (X.e - X.p) = X.e - X.p := IntWalk.i64_in _ (by omega)
    cases m with
    | true =>
      have HV : Hid (r.from_ ⟨true, (k : Int), true⟩ = X.f ∧ r.to_ ⟨true, (k : Int), true⟩ = X.t + 1 ∧ r.num ⟨true, (k : Int), true⟩ = X.p + X.e) := Lib.hid (by
        rw [hX]
        unfold Rw.from_ Rw.to_ Rw.num Rw.fa Rw.fb Rw.hi
        simp)
      clear hX hrow hr hf
      go_enter Tryz.func136, Tryz.ntmps136
      go_upto_region 4 with fail
      go_region
      all_goals
        go_wp2_with fail
        go_ret3
        exact ⟨by rw [HV.out.1, HV.out.2.1, HV.out.2.2]; rfl, (by repeat (first | (with_reducible first | exact Below.refl _ _ | refine Below.drew ?_ | refine below_drewN ?_ _) | ((with_reducible first | refine Lc ?_ ?_ _ | refine Ls ?_ ?_ _ | refine Lv (by assumption) ?_ ?_); · first | exact Nat.le_refl _ | omega | (simp; done) | (simp; omega) | (simp at *; omega))))⟩
    | false =>
      have HV : Hid (r.from_ ⟨true, (k : Int), false⟩ = X.t + 1 ∧ r.to_ ⟨true, (k : Int), false⟩ = X.f ∧ r.num ⟨true, (k : Int), false⟩ = X.e - X.p) := Lib.hid (by
        rw [hX]
        unfold Rw.from_ Rw.to_ Rw.num Rw.fa Rw.fb Rw.lo
        simp
        omega)
      clear hX hrow hr hf
      go_enter Tryz.func136, Tryz.ntmps136
      go_upto_region 5 with fail
      go_region
      all_goals
        go_wp2_with fail
        go_ret3
        exact ⟨by rw [HV.out.1, HV.out.2.1, HV.out.2.2]; rfl, (by repeat (first | (with_reducible first | exact Below.refl _ _ | refine Below.drew ?_ | refine below_drewN ?_ _) | ((with_reducible first | refine Lc ?_ ?_ _ | refine Ls ?_ ?_ _ | refine Lv (by assumption) ?_ ?_); · first | exact Nat.le_refl _ | omega | (simp; done) | (simp; omega) | (simp at *; omega))))⟩
  | false =>
    simp only [Bool.false_eq_true, if_false] at hf
    have hkm : k < r.n := by omega
    have hsb := Rw.sp_bd hr hkm
    obtain ⟨X, hX⟩ : ∃ X, X = r.sp k := ⟨_, rfl⟩
    have HXX := Lib.hid hX
    rw [← hX] at hsb
    have w1 : IntKind.i64.wrap ((k : Int) + 1) = (k : Int) + 1 := IntWalk.i64_in _ (by omega)
    have w2 : IntKind.i64.wrap (-X.a) = -X.a := IntWalk.i64_in _ (by omega)
    cases m with
    | true =>
      have HV : Hid (r.from_ ⟨false, (k : Int), true⟩ = (k : Int) ∧ r.to_ ⟨false, (k : Int), true⟩ = (k : Int) + 1 ∧ r.num ⟨false, (k : Int), true⟩ = X.b) := Lib.hid (by
        rw [hX]
        unfold Rw.from_ Rw.to_ Rw.num Rw.fa Rw.fb Rw.hi
        simp)
      clear hX hrow hr hf
      go_enter Tryz.func136, Tryz.ntmps136
      go_wp2_with fail
      refine (rspan_any r HOK.out k hkm bA dA vA bc dc vc _ ((H0.out.later (by repeat (first | (with_reducible first | exact Below.refl _ _ | assumption | refine Below.drew ?_) | ((with_reducible first | refine Lc ?_ ?_ _ | refine Ls ?_ ?_ _ | refine Lv (by assumption) ?_ ?_); · first | exact Nat.le_refl _ | omega | (dsimp only; omega) | (simp only [World.size_alloc, World.size_drew, World.heap_drewN]; omega) | (simp; omega))))).up (by first | exact Nat.le_refl _ | omega | (simp; done) | (simp; omega) | (simp at *; omega)) (by first | exact Nat.le_refl _ | omega | (simp; done) | (simp; omega) | (simp at *; omega)))).mono ?_
      rintro e w1' ⟨rfl, hb1⟩
      rw [← HXX.out]
      have HB1 := Lib.hid (show Below W.heap.size W w1' from (by repeat (first | (with_reducible first | exact Below.refl _ _ | refine Below.drew ?_ | refine below_drewN ?_ _) | ((with_reducible first | refine Lc ?_ ?_ _ | refine Ls ?_ ?_ _ | refine Lv (by assumption) ?_ ?_); · first | exact Nat.le_refl _ | omega | (simp; done) | (simp; omega) | (simp at *; omega)))))
      have e0 : w1'.cell? ⟨W.heap.size + 1, 1, none⟩ = some (.int .i64 (k : Int)) := Kb hb1 (by (repeat' refine And.intro ?_ ?_) <;> (repeat (first | with_reducible assumption | (simp; done) | (with_reducible first | refine Kd ?_ | refine Kn ?_ | refine Kb (by assumption) ?_) | ((with_reducible first | refine Kw ?_ ?_ | refine Fw ?_) <;> first | with_reducible rfl | (simp; done)) | (with_reducible first | refine Ka _ ?_ | refine Ks _ (by first | exact Nat.le_refl _ | omega | (simp; done) | (simp; omega)) ?_ | refine Fd ?_ | refine Fn ?_ | refine Fb (by assumption) (by first | exact Nat.le_refl _ | omega | (simp; done) | (simp; omega)) ?_ | refine Fa _ (by first | exact Nat.le_refl _ | omega | (simp; done) | (simp; omega)) ?_ | refine Fs _ ?_))))
      have e1 : w1'.cell? ⟨W.heap.size + 1, 2, none⟩ = some (.bool true) := Kb hb1 (by (repeat' refine And.intro ?_ ?_) <;> (repeat (first | with_reducible assumption | (simp; done) | (with_reducible first | refine Kd ?_ | refine Kn ?_ | refine Kb (by assumption) ?_) | ((with_reducible first | refine Kw ?_ ?_ | refine Fw ?_) <;> first | with_reducible rfl | (simp; done)) | (with_reducible first | refine Ka _ ?_ | refine Ks _ (by first | exact Nat.le_refl _ | omega | (simp; done) | (simp; omega)) ?_ | refine Fd ?_ | refine Fn ?_ | refine Fb (by assumption) (by first | exact Nat.le_refl _ | omega | (simp; done) | (simp; omega)) ?_ | refine Fa _ (by first | exact Nat.le_refl _ | omega | (simp; done) | (simp; omega)) ?_ | refine Fs _ ?_))))
      clear hb1
      go_upto_region 8 with fail
      go_region
      all_goals
        go_wp2_with fail
        go_ret3
        have hyo := HB1.out
        exact ⟨by rw [HV.out.1, HV.out.2.1, HV.out.2.2]; rfl, by first | exact hyo.alloc hyo.size _ | exact (hyo.alloc hyo.size _).drew | exact (by repeat (first | (with_reducible first | exact Below.refl _ _ | assumption | refine Below.drew ?_) | ((with_reducible first | refine Lc ?_ ?_ _ | refine Ls ?_ ?_ _ | refine Lv (by assumption) ?_ ?_); · first | exact Nat.le_refl _ | omega | (dsimp only; omega) | (simp only [World.size_alloc, World.size_drew, World.heap_drewN]; omega) | (simp; omega))))⟩
    | false =>
      have HV : Hid (r.from_ ⟨false, (k : Int), false⟩ = (k : Int) + 1 ∧ r.to_ ⟨false, (k : Int), false⟩ = (k : Int) ∧ r.num ⟨false, (k : Int), false⟩ = -X.a) := Lib.hid (by
        rw [hX]
        unfold Rw.from_ Rw.to_ Rw.num Rw.fa Rw.fb Rw.lo
        simp)
      clear hX hrow hr hf
      go_enter Tryz.func136, Tryz.ntmps136
      go_wp2_with fail
      refine (rspan_any r HOK.out k hkm bA dA vA bc dc vc _ ((H0.out.later (by repeat (first | (with_reducible first | exact Below.refl _ _ | assumption | refine Below.drew ?_) | ((with_reducible first | refine Lc ?_ ?_ _ | refine Ls ?_ ?_ _ | refine Lv (by assumption) ?_ ?_); · first | exact Nat.le_refl _ | omega | (dsimp only; omega) | (simp only [World.size_alloc, World.size_drew, World.heap_drewN]; omega) | (simp; omega))))).up (by first | exact Nat.le_refl _ | omega | (simp; done) | (simp; omega) | (simp at *; omega)) (by first | exact Nat.le_refl _ | omega | (simp; done) | (simp; omega) | (simp at *; omega)))).mono ?_
      rintro e w1' ⟨rfl, hb1⟩
      rw [← HXX.out]
      have HB1 := Lib.hid (show Below W.heap.size W w1' from (by repeat (first | (with_reducible first | exact Below.refl _ _ | refine Below.drew ?_ | refine below_drewN ?_ _) | ((with_reducible first | refine Lc ?_ ?_ _ | refine Ls ?_ ?_ _ | refine Lv (by assumption) ?_ ?_); · first | exact Nat.le_refl _ | omega | (simp; done) | (simp; omega) | (simp at *; omega)))))
      have e0 : w1'.cell? ⟨W.heap.size + 1, 1, none⟩ = some (.int .i64 (k : Int)) := Kb hb1 (by (repeat' refine And.intro ?_ ?_) <;> (repeat (first | with_reducible assumption | (simp; done) | (with_reducible first | refine Kd ?_ | refine Kn ?_ | refine Kb (by assumption) ?_) | ((with_reducible first | refine Kw ?_ ?_ | refine Fw ?_) <;> first | with_reducible rfl | (simp; done)) | (with_reducible first | refine Ka _ ?_ | refine Ks _ (by first | exact Nat.le_refl _ | omega | (simp; done) | (simp; omega)) ?_ | refine Fd ?_ | refine Fn ?_ | refine Fb (by assumption) (by first | exact Nat.le_refl _ | omega | (simp; done) | (simp; omega)) ?_ | refine Fa _ (by first | exact Nat.le_refl _ | omega | (simp; done) | (simp; omega)) ?_ | refine Fs _ ?_))))
      have e1 : w1'.cell? ⟨W.heap.size + 1, 2, none⟩ = some (.bool false) := Kb hb1 (by (repeat' refine And.intro ?_ ?_) <;> (repeat (first | with_reducible assumption | (simp; done) | (with_reducible first | refine Kd ?_ | refine Kn ?_ | refine Kb (by assumption) ?_) | ((with_reducible first | refine Kw ?_ ?_ | refine Fw ?_) <;> first | with_reducible rfl | (simp; done)) | (with_reducible first | refine Ka _ ?_ | refine Ks _ (by first | exact Nat.le_refl _ | omega | (simp; done) | (simp; omega)) ?_ | refine Fd ?_ | refine Fn ?_ | refine Fb (by assumption) (by first | exact Nat.le_refl _ | omega | (simp; done) | (simp; omega)) ?_ | refine Fa _ (by first | exact Nat.le_refl _ | omega | (simp; done) | (simp; omega)) ?_ | refine Fs _ ?_))))
      clear hb1
      go_upto_region 9 with fail
      go_region
      all_goals
        go_wp2_with fail
        go_ret3
        have hyo := HB1.out
        exact ⟨by rw [HV.out.1, HV.out.2.1, HV.out.2.2]; rfl, by first | exact hyo.alloc hyo.size _ | exact (hyo.alloc hyo.size _).drew | exact (by repeat (first | (with_reducible first | exact Below.refl _ _ | assumption | refine Below.drew ?_) | ((with_reducible first | refine Lc ?_ ?_ _ | refine Ls ?_ ?_ _ | refine Lv (by assumption) ?_ ?_); · first | exact Nat.le_refl _ | omega | (dsimp only; omega) | (simp only [World.size_alloc, World.size_drew, World.heap_drewN]; omega) | (simp; omega))))⟩
end Go.Proofs.YtnnikeolgknfoaaGreat

set_option linter.unusedSimpArgs false
set_option linter.unusedVariables false
namespace Go.Proofs.YtnnikeolgknfoaaGreat
open Go.RowKit Go.Shelf

theorem infoRowW : (Tryz.prog.info? 31).map (fun i => (i.zero, i.size, i.bytes)) = some (some (.slice none 0 0), 1, 24) := by kernel_rfl
theorem rowsW_under : Tryz.prog.underlying 106 = some (.slice 31) := by kernel_rfl
/-- rows of a table -/
def rwsL (R C : Nat → Nat) (N m : Nat) : List Value := (List.range m).map (fun a => .slice (some ⟨R a, 0, none⟩) N (C a))
theorem rwsL_succ (R C : Nat → Nat) (N m : Nat) : rwsL R C N (m + 1) = rwsL R C N m ++ [.slice (some ⟨R m, 0, none⟩) N (C m)] := by
  unfold rwsL
  rw [List.range_succ, List.map_append]
  rfl
theorem rwsL_get (R C : Nat → Nat) (N : Nat) {m a : Nat} (h : a < m) : (rwsL R C N m)[a]? = some (.slice (some ⟨R a, 0, none⟩) N (C a)) := by
  unfold rwsL
  rw [List.getElem?_map, List.getElem?_range h]
  rfl
/-- a table that is built -/
structure TbB (w : World) (lo N m : Nat) (v : Value) (R C : Nat → Nat) (T : Nat → Nat → Int) : Prop where
  o : w.ownsRow lo 31 1 v m (rwsL R C N m)
  c : ∀ a, a < m → ∀ b, b < N → w.cell? ⟨R a, b, none⟩ = some (.int .i64 (T a b)) ∧ w.frozen? ⟨R a, b, none⟩ = false
  d : ∀ a, a < m → lo ≤ R a ∧ v.ownBlock ≠ some (R a)
  i : ∀ a b, a < m → b < m → R a = R b → a = b
theorem TbB.lt {w : World} {lo N m : Nat} {v : Value} {R C : Nat → Nat} {T : Nat → Nat → Int} (h : TbB w lo N m v R C T) (hN : 0 < N) {a : Nat} (ha : a < m) : R a < w.heap.size := World.block_lt_of_cell? w _ (h.c a ha 0 hN).1
theorem TbB.later {w w' : World} {lo N m : Nat} {v : Value} {R C : Nat → Nat} {T : Nat → Nat → Int} (h : TbB w lo N m v R C T) (hN : 0 < N) (hb : Below w.heap.size w w') : TbB w' lo N m v R C T :=
  ⟨owns_later h.o hb, fun a ha b hb' => ⟨cell_same (hb.block _ (h.lt hN ha)) (h.c a ha b hb').1, fro_same (hb.block _ (h.lt hN ha)) (h.c a ha b hb').2⟩, h.d, h.i⟩
theorem TbB.add {w w5 w6 : World} {lo N m : Nat} {v : Value} {R C : Nat → Nat} {T : Nat → Nat → Int} (h : TbB w lo N m v R C T) (hN : 0 < N) {q cq g cap : Nat} (hq : ∀ b, b < N → w.cell? ⟨q, b, none⟩ = some (.int .i64 (T m b)) ∧ w.frozen? ⟨q, b, none⟩ = false) (hlo : lo ≤ q) (hqR : ∀ a, a < m → R a ≠ q) (hqv : v.ownBlock ≠ some q)
    (h5 : Below w.heap.size w w5) (hown : w6.ownsRow lo 31 1 (.slice (some ⟨g, 0, none⟩) (m + 1) cap) (m + 1) (rwsL R C N m ++ [.slice (some ⟨q, 0, none⟩) N cq])) (hgr : w5.grownBy w6 v.ownBlock) (hat : v.ownBlock = some g ∨ g = w5.heap.size) :
    TbB w6 lo N (m + 1) (.slice (some ⟨g, 0, none⟩) (m + 1) cap) (fun a => if a = m then q else R a) (fun a => if a = m then cq else C a) T := by
  have hqlt : q < w.heap.size := World.block_lt_of_cell? w _ (hq 0 hN).1
  have hs5 := h5.size
  have hk : ∀ i, i < w.heap.size → v.ownBlock ≠ some i → w6.heap[i]? = w.heap[i]? ∧ i ≠ g := fun i hi hne => by
    refine ⟨(hgr.block i (by omega) (fun e => hne e.symm)).trans (h5.block i hi), fun e => ?_⟩
    rcases hat with h1 | h1
    · exact hne (by rw [h1, e])
    · omega
  have er : rwsL (fun a => if a = m then q else R a) (fun a => if a = m then cq else C a) N (m + 1) = rwsL R C N m ++ [.slice (some ⟨q, 0, none⟩) N cq] := by
    rw [rwsL_succ, if_pos rfl, if_pos rfl]
    congr 1
    unfold rwsL
    apply List.map_congr_left
    intro a ha
    have := List.mem_range.1 ha
    dsimp only
    rw [if_neg (by omega), if_neg (by omega)]
  refine ⟨er ▸ hown, fun a ha b hb => ?_, fun a ha => ?_, fun a b ha hb e => ?_⟩
  · by_cases e : a = m
    · rw [if_pos e, e]
      have := hk q hqlt hqv
      exact ⟨cell_same this.1 (hq b hb).1, fro_same this.1 (hq b hb).2⟩
    · rw [if_neg e]
      have ha' : a < m := by omega
      have := hk (R a) (h.lt hN ha') (h.d a ha').2
      exact ⟨cell_same this.1 (h.c a ha' b hb).1, fro_same this.1 (h.c a ha' b hb).2⟩
  · by_cases e : a = m
    · rw [if_pos e]
      exact ⟨hlo, fun e2 => (hk q hqlt hqv).2 (by injection e2 with e2; exact e2.symm)⟩
    · rw [if_neg e]
      have ha' : a < m := by omega
      exact ⟨(h.d a ha').1, fun e2 => (hk (R a) (h.lt hN ha') (h.d a ha').2).2 (by injection e2 with e2; exact e2.symm)⟩
  · (try dsimp only at e)
    by_cases e1 : a = m
    · by_cases e2 : b = m
      · omega
      · rw [if_pos e1, if_neg e2] at e
        exact absurd e.symm (hqR b (by omega))
    · by_cases e2 : b = m
      · rw [if_neg e1, if_pos e2] at e
        exact absurd e (hqR a (by omega))
      · rw [if_neg e1, if_neg e2] at e
        exact h.i a b (by omega) (by omega) e
/-- a table as it is read and written -/
structure TabAt (w : World) (lo N g : Nat) (R C : Nat → Nat) (T : Nat → Nat → Int) : Prop where
  r : ∀ a, a < N → w.cell? ⟨g, a, none⟩ = some (.slice (some ⟨R a, 0, none⟩) N (C a))
  c : ∀ a, a < N → ∀ b, b < N → w.cell? ⟨R a, b, none⟩ = some (.int .i64 (T a b)) ∧ w.frozen? ⟨R a, b, none⟩ = false
  d : ∀ a, a < N → lo ≤ R a ∧ R a ≠ g
  i : ∀ a b, a < N → b < N → R a = R b → a = b
  g : lo ≤ g
theorem TbB.tab {w : World} {lo N : Nat} {v : Value} {R C : Nat → Nat} {T : Nat → Nat → Int} (h : TbB w lo N N v R C T) (hN : 0 < N) : ∃ g cap, v = .slice (some ⟨g, 0, none⟩) N cap ∧ TabAt w lo N g R C T := by
  rcases h.o.2 with ⟨-, h0⟩ | ⟨g, cap, cur, rfl, hb, hg, hc1, hc2, hc3, hc4⟩
  · omega
  · refine ⟨g, cap, rfl, fun a ha => ?_, h.c, fun a ha => ⟨(h.d a ha).1, fun e => (h.d a ha).2 (by rw [e]; rfl)⟩, h.i, hb⟩
    refine cell_of_row (cs := cur.toList) (by simpa using hg) ?_
    rw [← rwsL_get R C N ha, ← hc4, List.getElem?_take_of_lt (by omega)]
theorem TabAt.lt {w : World} {lo N g : Nat} {R C : Nat → Nat} {T : Nat → Nat → Int} (h : TabAt w lo N g R C T) {a : Nat} (ha : a < N) : R a < w.heap.size ∧ g < w.heap.size := ⟨World.block_lt_of_cell? w _ (h.c a ha 0 (by omega)).1, World.block_lt_of_cell? w _ (h.r a ha)⟩
theorem TabAt.keep {w w' : World} {lo N g : Nat} {R C : Nat → Nat} {T : Nat → Nat → Int} (h : TabAt w lo N g R C T) (hk : ∀ i, (i = g ∨ ∃ a, a < N ∧ i = R a) → i < w.heap.size → w'.heap[i]? = w.heap[i]?) : TabAt w' lo N g R C T :=
  ⟨fun a ha => cell_same (hk g (.inl rfl) (h.lt ha).2) (h.r a ha), fun a ha b hb => ⟨cell_same (hk _ (.inr ⟨a, ha, rfl⟩) (h.lt ha).1) (h.c a ha b hb).1, fro_same (hk _ (.inr ⟨a, ha, rfl⟩) (h.lt ha).1) (h.c a ha b hb).2⟩, h.d, h.i, h.g⟩
theorem TabAt.later {w w' : World} {lo N g : Nat} {R C : Nat → Nat} {T : Nat → Nat → Int} (h : TabAt w lo N g R C T) (hb : Below w.heap.size w w') : TabAt w' lo N g R C T := h.keep (fun i _ hi => hb.block i hi)
theorem TabAt.congr {w : World} {lo N g : Nat} {R C : Nat → Nat} {T S : Nat → Nat → Int} (h : TabAt w lo N g R C T) (he : ∀ a b, a < N → b < N → T a b = S a b) : TabAt w lo N g R C S :=
  ⟨h.r, fun a ha b hb => by rw [← he a b ha hb]; exact h.c a ha b hb, h.d, h.i, h.g⟩
theorem TabAt.set {w : World} {lo N g : Nat} {R C : Nat → Nat} {T : Nat → Nat → Int} (h : TabAt w lo N g R C T) {a b : Nat} (ha : a < N) (hb : b < N) (z : Int) : TabAt (w.setCell ⟨R a, b, none⟩ (.int .i64 z)) lo N g R C (fun x y => if x = a ∧ y = b then z else T x y) := by
  refine ⟨fun x hx => ?_, fun x hx y hy => ⟨?_, Fs _ (h.c x hx y hy).2⟩, h.d, h.i, h.g⟩
  · rw [World.cell?_setCell_other _ _ _ _ (by intro e; injection e with e _ _; exact (h.d a ha).2 e)]
    exact h.r x hx
  · by_cases e : x = a ∧ y = b
    · obtain ⟨rfl, rfl⟩ := e
      rw [if_pos ⟨rfl, rfl⟩]
      exact World.cell?_setCell_same' _ _ _ (by rw [(h.c x hx y hy).1]; rfl)
    · rw [if_neg e, World.cell?_setCell_other _ _ _ _ (by intro e2; injection e2 with e2 e3 _; exact e ⟨(h.i a x ha hx e2).symm, e3.symm⟩)]
      exact (h.c x hx y hy).1
/-- a fact's box -/
structure FxB (w : World) (b : Nat) (f : Fc) : Prop where
  c0 : w.cell? ⟨b, 0, none⟩ = some (.bool f.w)
  c1 : w.cell? ⟨b, 1, none⟩ = some (.int .i64 f.i)
  c2 : w.cell? ⟨b, 2, none⟩ = some (.bool f.m)
  f0 : w.frozen? ⟨b, 0, none⟩ = false
  f1 : w.frozen? ⟨b, 1, none⟩ = false
  f2 : w.frozen? ⟨b, 2, none⟩ = false
theorem FxB.same {w w' : World} {b : Nat} {f : Fc} (h : FxB w b f) (hs : w'.heap[b]? = w.heap[b]?) : FxB w' b f := ⟨cell_same hs h.c0, cell_same hs h.c1, cell_same hs h.c2, fro_same hs h.f0, fro_same hs h.f1, fro_same hs h.f2⟩
theorem FxB.lt {w : World} {b : Nat} {f : Fc} (h : FxB w b f) : b < w.heap.size := World.block_lt_of_cell? w _ h.c0
/-- the table under way -/
structure TtAt (W w : World) (r : Rw) (bA : Option Addr) (bc : Nat) (dA : Option Addr) (dc : Nat) (vA : Option Addr) (vc : Nat) (g : Nat) (R C : Nat → Nat) (T : Nat → Nat → Int) : Prop where
  a : RwAt w W.heap.size r bA bc dA dc vA vc
  t : TabAt w (W.heap.size + 1) (r.n + 1) g R C T
  l : Below W.heap.size W w
theorem TtAt.later {W w w' : World} {r : Rw} {bA : Option Addr} {bc : Nat} {dA : Option Addr} {dc : Nat} {vA : Option Addr} {vc : Nat} {g : Nat} {R C : Nat → Nat} {T : Nat → Nat → Int} (h : TtAt W w r bA bc dA dc vA vc g R C T) (hb : Below w.heap.size w w') : TtAt W w' r bA bc dA dc vA vc g R C T := ⟨h.a.later hb, h.t.later hb, h.l.trans (hb.mono h.l.size)⟩
theorem TtAt.set {W w : World} {r : Rw} {bA : Option Addr} {bc : Nat} {dA : Option Addr} {dc : Nat} {vA : Option Addr} {vc : Nat} {g : Nat} {R C : Nat → Nat} {T : Nat → Nat → Int} (h : TtAt W w r bA bc dA dc vA vc g R C T) {a b : Nat} (ha : a < r.n + 1) (hb : b < r.n + 1) (z : Int) : TtAt W (w.setCell ⟨R a, b, none⟩ (.int .i64 z)) r bA bc dA dc vA vc g R C (fun x y => if x = a ∧ y = b then z else T x y) :=
  ⟨h.a.same (set_heap _ (by dsimp only; have := (h.t.d a ha).1; omega)), h.t.set ha hb z, h.l.setCell (by dsimp only; have := (h.t.d a ha).1; omega) _⟩
theorem tbPut_yes {r : Rw} {T : Nat → Nat → Int} {f : Fc} {a b : Nat} (ha : r.a f = a) (hb : r.b f = b) {z : Int} (hz : r.num f = z) (h : z < T a b) : (fun x y => if x = a ∧ y = b then z else T x y) = tbPut r T f := by
  funext x y
  unfold tbPut
  rw [ha, hb, hz]
  by_cases e : x = a ∧ y = b
  · obtain ⟨rfl, rfl⟩ := e
    rw [if_pos ⟨rfl, rfl⟩, if_pos ⟨rfl, rfl, h⟩]
  · rw [if_neg e, if_neg (fun h => e ⟨h.1, h.2.1⟩)]
theorem tbPut_no {r : Rw} {T : Nat → Nat → Int} {f : Fc} {a b : Nat} (ha : r.a f = a) (hb : r.b f = b) {z : Int} (hz : r.num f = z) (h : ¬ z < T a b) : tbPut r T f = T := by
  funext x y
  unfold tbPut
  rw [ha, hb, hz]
  rw [if_neg]
  rintro ⟨rfl, rfl, h1⟩
  exact h h1
end Go.Proofs.YtnnikeolgknfoaaGreat

set_option linter.unusedSimpArgs false
set_option linter.unusedVariables false
namespace Go.Proofs.YtnnikeolgknfoaaGreat
open Go.RowKit Go.Shelf

def TabPost (r : Rw) (W : World) (e : Ending) (W' : World) : Prop :=
  ∃ (g cap : Nat) (R C : Nat → Nat), e = .returned (.slice (some ⟨g, 0, none⟩) (r.n + 1) cap) ∧ TabAt W' W.heap.size (r.n + 1) g R C r.tb ∧ Below W.heap.size W W'
theorem ldV_nat {r : Rw} (hr : r.ok) {f : Fc} (hf : r.has f) : ∃ (a b : Nat) (z : Int), ldV r f = .tuple #[.int .i64 (a : Int), .int .i64 (b : Int), .int .i64 z] ∧ r.a f = a ∧ r.b f = b ∧ r.num f = z ∧ a < r.n + 1 ∧ b < r.n + 1 ∧ -3100 ≤ z ∧ z ≤ 3100 := by
  have h := Rw.ab_bd hr hf
  refine ⟨r.a f, r.b f, r.num f, ?_, rfl, rfl, rfl, by omega, by omega, by omega, by omega⟩
  unfold ldV
  rw [h.2.2.2.2.2.1, h.2.2.2.2.2.2]

set_option maxRecDepth 100000 in
set_option maxHeartbeats 8000000 in
theorem table_any (r : Rw) (hr : r.ok) (bA dA vA : Option Addr) (bc dc vc : Nat) (W : World) (hrow : RwRow W W.heap.size r bA bc dA dc vA vc) :
    Calls Tryz.prog 99 #[rwV bA r.n bc dA r.d dc vA r.m vc] W (TabPost r W) := by
  have H0 := Lib.hid hrow
  have HOK := Lib.hid hr
  have hn6 := hr.n6
  have hm10 := hr.m10
  obtain ⟨i0, hi, hz0, hz1, hz2⟩ := info_parts infoInt
  obtain ⟨j0, ji, jz0, jz1, jz2⟩ := info_parts infoRowW
  clear hrow hr
  go_enter Tryz.func99, Tryz.ntmps99
  go_upto_region 2 with fail
  refine wp_world (fun w' => RwAt w' W.heap.size r bA bc dA dc vA vc ∧ Below W.heap.size W w' ∧ W.heap.size + 1 ≤ w'.heap.size) ⟨⟨(by (repeat' refine And.intro ?_ ?_) <;> (repeat (first | with_reducible assumption | (simp; done) | (with_reducible first | refine Kd ?_ | refine Kn ?_ | refine Kb (by assumption) ?_) | ((with_reducible first | refine Kw ?_ ?_ | refine Fw ?_) <;> first | with_reducible rfl | (simp; done)) | (with_reducible first | refine Ka _ ?_ | refine Ks _ (by first | exact Nat.le_refl _ | omega | (simp; done) | (simp; omega)) ?_ | refine Fd ?_ | refine Fn ?_ | refine Fb (by assumption) (by first | exact Nat.le_refl _ | omega | (simp; done) | (simp; omega)) ?_ | refine Fa _ (by first | exact Nat.le_refl _ | omega | (simp; done) | (simp; omega)) ?_ | refine Fs _ ?_)))), (by (repeat' refine And.intro ?_ ?_) <;> (repeat (first | with_reducible assumption | (simp; done) | (with_reducible first | refine Kd ?_ | refine Kn ?_ | refine Kb (by assumption) ?_) | ((with_reducible first | refine Kw ?_ ?_ | refine Fw ?_) <;> first | with_reducible rfl | (simp; done)) | (with_reducible first | refine Ka _ ?_ | refine Ks _ (by first | exact Nat.le_refl _ | omega | (simp; done) | (simp; omega)) ?_ | refine Fd ?_ | refine Fn ?_ | refine Fb (by assumption) (by first | exact Nat.le_refl _ | omega | (simp; done) | (simp; omega)) ?_ | refine Fa _ (by first | exact Nat.le_refl _ | omega | (simp; done) | (simp; omega)) ?_ | refine Fs _ ?_)))), (by (repeat' refine And.intro ?_ ?_) <;> (repeat (first | with_reducible assumption | (simp; done) | (with_reducible first | refine Kd ?_ | refine Kn ?_ | refine Kb (by assumption) ?_) | ((with_reducible first | refine Kw ?_ ?_ | refine Fw ?_) <;> first | with_reducible rfl | (simp; done)) | (with_reducible first | refine Ka _ ?_ | refine Ks _ (by first | exact Nat.le_refl _ | omega | (simp; done) | (simp; omega)) ?_ | refine Fd ?_ | refine Fn ?_ | refine Fb (by assumption) (by first | exact Nat.le_refl _ | omega | (simp; done) | (simp; omega)) ?_ | refine Fa _ (by first | exact Nat.le_refl _ | omega | (simp; done) | (simp; omega)) ?_ | refine Fs _ ?_))))⟩, (by repeat (first | (with_reducible first | exact Below.refl _ _ | assumption | refine Below.drew ?_) | ((with_reducible first | refine Lc ?_ ?_ _ | refine Ls ?_ ?_ _ | refine Lv (by assumption) ?_ ?_); · first | exact Nat.le_refl _ | omega | (dsimp only; omega) | (simp only [World.size_alloc, World.size_drew, World.heap_drewN]; omega) | (simp; omega)))), by simp⟩ ?_
  rintro w1 ⟨ha1, hb1, hs1⟩
  have HA1 := Lib.hid ha1
  have HB1 := Lib.hid hb1
  clear ha1 hb1
  go_wp2_with fail
  go_loopw [3, 4] (fun v i wr => ∃ (m : Nat) (R C : Nat → Nat), m ≤ r.n + 1 ∧ i = .int .i64 m ∧ Hid (TbB wr (W.heap.size + 1) (r.n + 1) m v R C (fun _ _ => open8)) ∧ Hid (RwAt wr W.heap.size r bA bc dA dc vA vc ∧ Below W.heap.size W wr) ∧ W.heap.size + 1 ≤ wr.heap.size) (fun _ i _ => r.n + 1 - (intOf i).toNat)
  case atStart => exact ⟨0, fun _ => 0, fun _ => 0, Nat.zero_le _, rfl, Lib.hid ⟨World.ownsRow_nil _ _ _ _, fun a ha => by omega, fun a ha => by omega, fun a b ha => by omega⟩, Lib.hid ⟨HA1.out, HB1.out⟩, hs1⟩
  case round =>
    clear HA1 HB1 hs1
    obtain ⟨m, R, C, hm, rfl, HT, HAB, hsz⟩ := hrel
    obtain ⟨wo, rfl⟩ : ∃ wo, wo = wr := ⟨_, rfl⟩
    have hsW := HAB.out.2.size
    obtain ⟨a0, a1, a2⟩ := HAB.out.1
    by_cases hlt : m ≤ r.n
    · have hm0 : (0 : Int) ≤ (m : Int) := by omega
      have hmn : (m : Int) ≤ (r.n : Int) := by omega
      have em : IntKind.i64.wrap ((m : Int) + 1) = (m : Int) + 1 := IntWalk.i64_in _ (by omega)
      go_wp2_with fail
      clear a0 a1 a2
      go_loopw [5, 6] (fun v5 i wy => ∃ k : Nat, k ≤ r.n + 1 ∧ i = .int .i64 k ∧ Hid (wy.ownsRow wo.heap.size 3 1 v5 k (numCells (fun _ => open8) k)) ∧ Hid (Below wo.heap.size wo wy)) (fun _ i _ => r.n + 1 - (intOf i).toNat)
      case atStart => exact ⟨0, Nat.zero_le _, rfl, Lib.hid (World.ownsRow_nil _ _ _ _), Lib.hid (Below.refl _ _)⟩
      case round =>
        obtain ⟨k, hk, rfl, HO, HB⟩ := hrel
        obtain ⟨wy, rfl⟩ : ∃ wy, wy = wr := ⟨_, rfl⟩
        have hsy := HB.out.size
        obtain ⟨a0, a1, a2⟩ := HAB.out.1.later HB.out
        by_cases hlk : k ≤ r.n
        · have hk0 : (0 : Int) ≤ (k : Int) := by omega
          have hkn : (k : Int) ≤ (r.n : Int) := by omega
          have ek : IntKind.i64.wrap ((k : Int) + 1) = (k : Int) + 1 := IntWalk.i64_in _ (by omega)
          have hv1 := HO.out.lt
          go_upto_region 8 with (at_builtin; refine wpList_append_lies _ rfl (.tmp 26) (.tmp 27) 31 rfl wo.heap.size 3 i0 (.int .i64 0) 1 8 ints_under hi hz0 hz1 hz2 rfl (by decide) _ k (numCells (fun _ => open8) k) rfl (HO.out.alloc _) ⟨wy.heap.size, 0, none⟩ 1 1 [.int .i64 100000000] rfl rfl (new_cells (cs := [.int .i64 100000000])) (by intro u hu; simp only [List.mem_cons, List.not_mem_nil, or_false] at hu; subst hu; rfl) (by omega) (by unfold maxLen; omega) (by omega) (by simp; omega) (wy.heap.size + 1) (by simp) ?_; intro g cap w6 hown6 hgr6 hat6 hlt6)
          have HO6 : Hid (w6.ownsRow wo.heap.size 3 1 (.slice (some ⟨g, 0, none⟩) (k + 1) cap) (k + 1) (numCells (fun _ => open8) (k + 1))) := Lib.hid (by rw [numCells_succ]; exact hown6)
          have HB6 : Hid (Below wo.heap.size wo w6) := Lib.hid (HB.out.trans (Below.grown ((Below.refl _ wy).alloc (by omega) _) hgr6 (by simp; omega) (fun q hq => (hv1 q hq).1)))
          clear hown6 hgr6 hat6 hlt6 a0 a1 a2 HO HB
          go_wp2_with fail
          go_roundw
          case rel => exact ⟨k + 1, by omega, by go_num, HO6, HB6⟩
          case measure => simp [intOf]; omega
        · obtain rfl : k = r.n + 1 := by omega
          have hge : ¬ ((r.n + 1 : Nat) : Int) ≤ (r.n : Int) := by omega
          have hge' : ¬ (r.n : Int) + 1 ≤ (r.n : Int) := by omega
          obtain ⟨A5, c5, rfl, how5, hc5⟩ := ownInt_of HO.out
          obtain ⟨q, hq⟩ : ∃ q, A5 = some ⟨q, 0, none⟩ := by
            obtain ⟨b, h1, _⟩ := how5 0 (by omega)
            exact ⟨b, h1⟩
          subst hq
          have hqc : ∀ b, b < r.n + 1 → wy.cell? ⟨q, b, none⟩ = some (.int .i64 open8) ∧ wy.frozen? ⟨q, b, none⟩ = false := fun b hb => by
            obtain ⟨b', h1, h2, h3, h4⟩ := how5 b hb
            injection h1 with h1
            injection h1 with h1
            subst h1
            exact ⟨h3, h4 b⟩
          have hqlo : wo.heap.size ≤ q := by
            obtain ⟨b', h1, h2, h3, h4⟩ := how5 0 (by omega)
            injection h1 with h1
            injection h1 with h1
            omega
          have HTy := HT.out.later (by omega) HB.out
          have HTY := Lib.hid HTy
          have HQ := Lib.hid (And.intro hqc hqlo)
          have hv1 := HT.out.o.lt
          have hAB := HAB.out.1.later HB.out
          have HABy := Lib.hid (And.intro hAB (HAB.out.2.trans (HB.out.mono hsW)))
          clear hAB HTy hqc how5 HO
          go_upto_region 4 with (at_builtin; refine wpList_append_lies _ rfl (.tmp 29) (.tmp 31) 106 rfl (W.heap.size + 1) 31 j0 (.slice none 0 0) 1 24 rowsW_under ji jz0 jz1 jz2 rfl (by decide) _ m (rwsL R C (r.n + 1) m) rfl (HTY.out.o.alloc _) ⟨wy.heap.size, 0, none⟩ 1 1 [.slice (some ⟨q, 0, none⟩) (r.n + 1) c5] rfl rfl (new_cells (cs := [.slice (some ⟨q, 0, none⟩) (r.n + 1) c5])) (by intro u hu; simp only [List.mem_cons, List.not_mem_nil, or_false] at hu; subst hu; rfl) (by omega) (by unfold maxLen; omega) (by omega) (by simp; omega) (wy.heap.size + 1) (by simp) ?_; intro g cap w6 hown6 hgr6 hat6 hlt6)
          have HT6 := Lib.hid (HTY.out.add (T := fun _ _ => open8) (by omega) HQ.out.1 (by omega) (fun a ha e => by have := HT.out.lt (by omega) ha; omega) (fun e => by have := (hv1 q e).2; omega) ((Below.refl _ wy).alloc (Nat.le_refl _) _) hown6 hgr6 (by rcases hat6 with h | h; exact .inl h; exact .inr (by simpa using h)))
          have hz6 := hgr6.size
          simp only [World.size_alloc] at hz6
          have HAB6 : Hid (RwAt w6 W.heap.size r bA bc dA dc vA vc ∧ Below W.heap.size W w6) := Lib.hid ⟨HABy.out.1.same ((hgr6.block _ (by simp; omega) (fun e => by have := (hv1 _ e.symm).1; omega)).trans (Below.heap_alloc _ _ _ (by omega))), (HABy.out.2.alloc (by omega) _).grown hgr6 (by simp; omega) (fun q hq => by have := (hv1 q hq).1; omega)⟩
          clear hown6 hgr6 hat6 hlt6 a0 a1 a2 HT HTY HAB HABy HB
          go_wp2_with fail
          refine ⟨?_, ?measure⟩
          case measure => simp [intOf]; omega
          exact ⟨m + 1, _, _, by omega, by go_num, HT6, HAB6, by omega⟩
    · obtain rfl : m = r.n + 1 := by omega
      have hge : ¬ ((r.n + 1 : Nat) : Int) ≤ (r.n : Int) := by omega
      have hge' : ¬ (r.n : Int) + 1 ≤ (r.n : Int) := by omega
      obtain ⟨g, cap, rfl, htab⟩ := HT.out.tab (by omega)
      have HTT : Hid (TtAt W wo r bA bc dA dc vA vc g R C (r.tbN 0)) := Lib.hid ⟨HAB.out.1, htab, HAB.out.2⟩
      clear htab HT HAB hm
      go_wp2_with fail
      clear a0 a1 a2
      go_loopw [7] (fun i wr => ∃ k : Nat, k ≤ r.n + r.m ∧ i = .int .i64 k ∧ Hid (TtAt W wr r bA bc dA dc vA vc g R C (r.tbN k))) (fun i _ => r.n + r.m - (intOf i).toNat)
      case atStart => exact ⟨0, Nat.zero_le _, rfl, HTT⟩
      case round =>
        clear HTT
        obtain ⟨k, hk, rfl, HT⟩ := hrel
        obtain ⟨wq, rfl⟩ : ∃ wq, wq = wr := ⟨_, rfl⟩
        have hsq := HT.out.l.size
        have en : IntKind.i64.wrap ((r.n : Int) + (r.m : Int)) = (r.n : Int) + (r.m : Int) := IntWalk.i64_in _ (by omega)
        obtain ⟨a0, a1, a2⟩ := HT.out.a
        by_cases hlk : k < r.n + r.m
        · have hk0 : (0 : Int) ≤ (k : Int) := by omega
          have hkn : (k : Int) < (r.n : Int) + (r.m : Int) := by omega
          have ek : IntKind.i64.wrap ((k : Int) + 1) = (k : Int) + 1 := IntWalk.i64_in _ (by omega)
          obtain ⟨T, hT⟩ : ∃ T, T = r.tbN k := ⟨_, rfl⟩
          have HTE := Lib.hid hT
          rw [← hT] at HT
          have hRl : ∀ a, a < r.n + 1 → R a < wq.heap.size := fun a ha => (HT.out.t.lt ha).1
          have hgl := (HT.out.t.lt (a := 0) (by omega)).2
          have HRL := Lib.hid hRl
          have hgg := HT.out.t.g
          clear hT hRl
          go_upto_region 15 with fail
          refine wp_world (fun w' => FxB w' wq.heap.size ⟨false, (k : Int), false⟩ ∧ TtAt W w' r bA bc dA dc vA vc g R C T) ⟨⟨(by (repeat' refine And.intro ?_ ?_) <;> (repeat (first | with_reducible assumption | (simp; done) | (with_reducible first | refine Kd ?_ | refine Kn ?_ | refine Kb (by assumption) ?_) | ((with_reducible first | refine Kw ?_ ?_ | refine Fw ?_) <;> first | with_reducible rfl | (simp; done)) | (with_reducible first | refine Ka _ ?_ | refine Ks _ (by first | exact Nat.le_refl _ | omega | (simp; done) | (simp; omega)) ?_ | refine Fd ?_ | refine Fn ?_ | refine Fb (by assumption) (by first | exact Nat.le_refl _ | omega | (simp; done) | (simp; omega)) ?_ | refine Fa _ (by first | exact Nat.le_refl _ | omega | (simp; done) | (simp; omega)) ?_ | refine Fs _ ?_)))), (by (repeat' refine And.intro ?_ ?_) <;> (repeat (first | with_reducible assumption | (simp; done) | (with_reducible first | refine Kd ?_ | refine Kn ?_ | refine Kb (by assumption) ?_) | ((with_reducible first | refine Kw ?_ ?_ | refine Fw ?_) <;> first | with_reducible rfl | (simp; done)) | (with_reducible first | refine Ka _ ?_ | refine Ks _ (by first | exact Nat.le_refl _ | omega | (simp; done) | (simp; omega)) ?_ | refine Fd ?_ | refine Fn ?_ | refine Fb (by assumption) (by first | exact Nat.le_refl _ | omega | (simp; done) | (simp; omega)) ?_ | refine Fa _ (by first | exact Nat.le_refl _ | omega | (simp; done) | (simp; omega)) ?_ | refine Fs _ ?_)))), (by (repeat' refine And.intro ?_ ?_) <;> (repeat (first | with_reducible assumption | (simp; done) | (with_reducible first | refine Kd ?_ | refine Kn ?_ | refine Kb (by assumption) ?_) | ((with_reducible first | refine Kw ?_ ?_ | refine Fw ?_) <;> first | with_reducible rfl | (simp; done)) | (with_reducible first | refine Ka _ ?_ | refine Ks _ (by first | exact Nat.le_refl _ | omega | (simp; done) | (simp; omega)) ?_ | refine Fd ?_ | refine Fn ?_ | refine Fb (by assumption) (by first | exact Nat.le_refl _ | omega | (simp; done) | (simp; omega)) ?_ | refine Fa _ (by first | exact Nat.le_refl _ | omega | (simp; done) | (simp; omega)) ?_ | refine Fs _ ?_)))), (by (repeat' refine And.intro ?_ ?_) <;> (repeat (first | with_reducible assumption | (simp; done) | (with_reducible first | refine Kd ?_ | refine Kn ?_ | refine Kb (by assumption) ?_) | ((with_reducible first | refine Kw ?_ ?_ | refine Fw ?_) <;> first | with_reducible rfl | (simp; done)) | (with_reducible first | refine Ka _ ?_ | refine Ks _ (by first | exact Nat.le_refl _ | omega | (simp; done) | (simp; omega)) ?_ | refine Fd ?_ | refine Fn ?_ | refine Fb (by assumption) (by first | exact Nat.le_refl _ | omega | (simp; done) | (simp; omega)) ?_ | refine Fa _ (by first | exact Nat.le_refl _ | omega | (simp; done) | (simp; omega)) ?_ | refine Fs _ ?_)))), (by (repeat' refine And.intro ?_ ?_) <;> (repeat (first | with_reducible assumption | (simp; done) | (with_reducible first | refine Kd ?_ | refine Kn ?_ | refine Kb (by assumption) ?_) | ((with_reducible first | refine Kw ?_ ?_ | refine Fw ?_) <;> first | with_reducible rfl | (simp; done)) | (with_reducible first | refine Ka _ ?_ | refine Ks _ (by first | exact Nat.le_refl _ | omega | (simp; done) | (simp; omega)) ?_ | refine Fd ?_ | refine Fn ?_ | refine Fb (by assumption) (by first | exact Nat.le_refl _ | omega | (simp; done) | (simp; omega)) ?_ | refine Fa _ (by first | exact Nat.le_refl _ | omega | (simp; done) | (simp; omega)) ?_ | refine Fs _ ?_)))), (by (repeat' refine And.intro ?_ ?_) <;> (repeat (first | with_reducible assumption | (simp; done) | (with_reducible first | refine Kd ?_ | refine Kn ?_ | refine Kb (by assumption) ?_) | ((with_reducible first | refine Kw ?_ ?_ | refine Fw ?_) <;> first | with_reducible rfl | (simp; done)) | (with_reducible first | refine Ka _ ?_ | refine Ks _ (by first | exact Nat.le_refl _ | omega | (simp; done) | (simp; omega)) ?_ | refine Fd ?_ | refine Fn ?_ | refine Fb (by assumption) (by first | exact Nat.le_refl _ | omega | (simp; done) | (simp; omega)) ?_ | refine Fa _ (by first | exact Nat.le_refl _ | omega | (simp; done) | (simp; omega)) ?_ | refine Fs _ ?_))))⟩, HT.out.later (by repeat (first | (with_reducible first | exact Below.refl _ _ | assumption | refine Below.drew ?_) | ((with_reducible first | refine Lc ?_ ?_ _ | refine Ls ?_ ?_ _ | refine Lv (by assumption) ?_ ?_); · first | exact Nat.le_refl _ | omega | (dsimp only; omega) | (simp only [World.size_alloc, World.size_drew, World.heap_drewN]; omega) | (simp; omega))))⟩ ?_
          rintro w8 ⟨hx8, ht8⟩
          have HX8 := Lib.hid hx8
          have HT8 := Lib.hid ht8
          obtain ⟨fb, hfb⟩ : ∃ fb, fb = wq.heap.size := ⟨_, rfl⟩
          rw [← hfb] at HX8 HRL hgl hsq
          rw [← hfb]
          clear hx8 ht8 HT a0 a1 a2 hfb
          obtain ⟨a0, a1, a2⟩ := HT8.out.a
          obtain ⟨x0, x1, x2, y0, y1, y2⟩ := HX8.out
          go_upto_if 50 with fail
          go_cut [] (fun wx => Hid (FxB wx fb (r.fk k false)) ∧ Hid (TtAt W wx r bA bc dA dc vA vc g R C T))
          case first =>
            by_cases hkb : k < r.n
            · have g1 : ¬ (r.n : Int) ≤ (k : Int) := by omega
              have HF : Hid (FxB w8 fb (r.fk k false)) := Lib.hid (by unfold Rw.fk; rw [if_pos hkb]; exact HX8.out)
              clear hkb
              go_wp2_with fail
              go_meet
              exact ⟨HF, HT8⟩
            · have g1 : (r.n : Int) ≤ (k : Int) := by omega
              have e1 : IntKind.i64.wrap ((k : Int) - (r.n : Int)) = ((k - r.n : Nat) : Int) := by rw [IntWalk.i64_in _ (by omega)]; omega
              have HFK : Hid (r.fk k false = ⟨true, ((k - r.n : Nat) : Int), false⟩) := Lib.hid (by unfold Rw.fk; rw [if_neg hkb])
              clear hkb
              go_wp2_with fail
              go_meet
              have hk8 : ∀ i, i ≠ fb → (((w8.setCell ⟨fb, 0, none⟩ (.bool true)).setCell ⟨fb, 1, none⟩ (.int .i64 ((k - r.n : Nat) : Int))).setCell ⟨fb, 2, none⟩ (.bool false)).heap[i]? = w8.heap[i]? := fun i hi => (set_heap _ (by exact hi)).trans ((set_heap _ (by exact hi)).trans (set_heap _ (by exact hi)))
              refine ⟨Lib.hid ?_, Lib.hid ⟨HT8.out.a.same (hk8 _ (by omega)), HT8.out.t.keep (fun i hi _ => hk8 i (by rcases hi with rfl | ⟨a, ha, rfl⟩; omega; have := HRL.out a ha; omega)), ((HT8.out.l.setCell (by dsimp only; omega) _).setCell (by dsimp only; omega) _).setCell (by dsimp only; omega) _⟩⟩
              rw [HFK.out]
              exact ⟨by simp [go_sem, x0, x1, x2], by simp [go_sem, x0, x1, x2], by simp [go_sem, x0, x1, x2], Fs _ (Fs _ (Fs _ y0)), Fs _ (Fs _ (Fs _ y1)), Fs _ (Fs _ (Fs _ y2))⟩
          case rest =>
            obtain ⟨HF9, HT9⟩ := hcut
            clear HX8 HT8 a0 a1 a2 x0 x1 x2 y0 y1 y2
            obtain ⟨a0, a1, a2⟩ := HT9.out.a
            obtain ⟨x0, x1, x2, y0, y1, y2⟩ := HF9.out
            obtain ⟨f, hf⟩ : ∃ f, f = r.fk k false := ⟨_, rfl⟩
            have hfh : r.has f := by rw [hf]; exact Rw.fk_has hlk false
            have HFH := Lib.hid hfh
            have HF := Lib.hid hf
            obtain ⟨a, b, z, hld, hfa, hfb, hfz, han, hbn, hz3⟩ := ldV_nat HOK.out hfh
            have HL := Lib.hid (And.intro hld (And.intro hfa (And.intro hfb hfz)))
            rw [← hf] at x0 x1 x2
            clear hf hfh hld hfa hfb hfz
            go_wp2_with fail
            refine (show Calls Tryz.prog 136 #[rwV bA r.n bc dA r.d dc vA r.m vc, fcV f] _ _ from rstep_any r HOK.out f HFH.out bA dA vA bc dc vc _ ((H0.out.later HT9.out.l).up HT9.out.l.size (Nat.le_refl _))).mono ?_
            rintro e w10 ⟨rfl, hb10⟩
            rw [HL.out.1]
            have HT10 := Lib.hid (HT9.out.later hb10)
            have HF10 := Lib.hid (HF9.out.same (hb10.block _ HF9.out.lt))
            have hfbl := HF10.out.lt
            clear hb10 HT9 HF9 a0 a1 a2 x0 x1 x2 y0 y1 y2
            have ha0 : (0 : Int) ≤ (a : Int) := by omega
            have hb0 : (0 : Int) ≤ (b : Int) := by omega
            have han' : (a : Int) < (r.n : Int) + 1 := by omega
            have hbn' : (b : Int) < (r.n : Int) + 1 := by omega
            have t0 := HT10.out.t.r a han
            obtain ⟨t1, t2⟩ := HT10.out.t.c a han b hbn
            have hRa := HRL.out a han
            go_upto_if 72 with fail
            go_cut [] (fun wx => Hid (FxB wx fb f) ∧ Hid (TtAt W wx r bA bc dA dc vA vc g R C (tbPut r T f)))
            case first =>
              by_cases hz : z < T a b
              · go_wp2_with fail
                go_meet
                exact ⟨Lib.hid (by rw [HF.out]; exact HF10.out.same (set_heap _ (by show fb ≠ R a; omega))), Lib.hid (by rw [← tbPut_yes HL.out.2.1 HL.out.2.2.1 HL.out.2.2.2 hz]; exact HT10.out.set han hbn z)⟩
              · have HN := Lib.hid (tbPut_no (T := T) HL.out.2.1 HL.out.2.2.1 HL.out.2.2.2 hz)
                go_wp2_with fail
                go_meet
                exact ⟨by rw [HF.out]; exact HF10, by rw [HN.out]; exact HT10⟩
            case rest =>
              obtain ⟨HF11, HT11⟩ := hcut
              clear HF10 HT10 t0 t1 t2
              obtain ⟨a0, a1, a2⟩ := HT11.out.a
              obtain ⟨x0, x1, x2, y0, y1, y2⟩ := HF11.out
              obtain ⟨f2, hf2⟩ : ∃ f2, f2 = r.fk k true := ⟨_, rfl⟩
              have hf2h : r.has f2 := by rw [hf2]; exact Rw.fk_has hlk true
              have hfe : f2.w = f.w ∧ f2.i = f.i ∧ f2.m = true := by
                rw [hf2, HF.out]
                unfold Rw.fk
                by_cases hkb : k < r.n
                · rw [if_pos hkb, if_pos hkb]; exact ⟨rfl, rfl, rfl⟩
                · rw [if_neg hkb, if_neg hkb]; exact ⟨rfl, rfl, rfl⟩
              have HFE := Lib.hid hfe
              have HF2H := Lib.hid hf2h
              have HF2 := Lib.hid hf2
              clear hf2 hf2h hfe
              go_upto_region 21 with fail
              refine wp_world (fun w' => FxB w' fb f2 ∧ TtAt W w' r bA bc dA dc vA vc g R C (tbPut r T f)) ?_ ?_
              · have hkk : ∀ (w0 : World) (i : Nat), i ≠ fb → (w0.setCell ⟨fb, 2, none⟩ (.bool true)).heap[i]? = w0.heap[i]? := fun w0 i hi => set_heap _ (by exact hi)
                refine ⟨⟨?_, ?_, ?_, Fs _ y0, Fs _ y1, Fs _ y2⟩, ⟨HT11.out.a.same (hkk _ _ (by omega)), HT11.out.t.keep (fun i hi _ => hkk _ i (by rcases hi with rfl | ⟨a, ha, rfl⟩; omega; have := HRL.out a ha; omega)), HT11.out.l.setCell (by dsimp only; omega) _⟩⟩
                · rw [HFE.out.1]; simp [go_sem, x0]
                · rw [HFE.out.2.1]; simp [go_sem, x1]
                · rw [HFE.out.2.2]; simp [go_sem, x2]
              rintro w12 ⟨hx12, ht12⟩
              have HF12 := Lib.hid hx12
              have HT12 := Lib.hid ht12
              clear hx12 ht12 HF11 HT11 a0 a1 a2 x0 x1 x2 y0 y1 y2
              obtain ⟨a0, a1, a2⟩ := HT12.out.a
              obtain ⟨x0, x1, x2, y0, y1, y2⟩ := HF12.out
              obtain ⟨p, q, zz, hld, hfa, hfb, hfz, hpn, hqn, hzz3⟩ := ldV_nat HOK.out HF2H.out
              have HL2 := Lib.hid (And.intro hld (And.intro hfa (And.intro hfb hfz)))
              clear hld hfa hfb hfz
              go_wp2_with fail
              refine (show Calls Tryz.prog 136 #[rwV bA r.n bc dA r.d dc vA r.m vc, fcV f2] _ _ from rstep_any r HOK.out f2 HF2H.out bA dA vA bc dc vc _ ((H0.out.later HT12.out.l).up HT12.out.l.size (Nat.le_refl _))).mono ?_
              rintro e w13 ⟨rfl, hb13⟩
              rw [HL2.out.1]
              have HT13 := Lib.hid (HT12.out.later hb13)
              clear hb13 HT12 HF12 a0 a1 a2 x0 x1 x2 y0 y1 y2
              have hp0 : (0 : Int) ≤ (p : Int) := by omega
              have hq0 : (0 : Int) ≤ (q : Int) := by omega
              have hpn' : (p : Int) < (r.n : Int) + 1 := by omega
              have hqn' : (q : Int) < (r.n : Int) + 1 := by omega
              have t0 := HT13.out.t.r p hpn
              obtain ⟨t1, t2⟩ := HT13.out.t.c p hpn q hqn
              have hN : r.tbN (k + 1) = tbPut r (tbPut r T f) f2 := by rw [HTE.out, HF.out, HF2.out]; rfl
              have HNN := Lib.hid hN
              obtain ⟨S, hS⟩ : ∃ S, S = tbPut r T f := ⟨_, rfl⟩
              rw [← hS] at HNN HT13 t1
              clear hS hN
              by_cases hz : zz < S p q
              · have HTF : Hid (TtAt W (w13.setCell ⟨R p, q, none⟩ (.int .i64 zz)) r bA bc dA dc vA vc g R C (r.tbN (k + 1))) := Lib.hid (by rw [HNN.out, ← tbPut_yes HL2.out.2.1 HL2.out.2.2.1 HL2.out.2.2.2 hz]; exact HT13.out.set hpn hqn zz)
                go_wp2_with fail
                refine ⟨?_, ?measure⟩
                case measure => simp [intOf]; omega
                exact ⟨k + 1, by omega, by go_num, HTF⟩
              · have HTF : Hid (TtAt W w13 r bA bc dA dc vA vc g R C (r.tbN (k + 1))) := Lib.hid (by rw [HNN.out, tbPut_no (T := S) HL2.out.2.1 HL2.out.2.2.1 HL2.out.2.2.2 hz]; exact HT13.out)
                go_wp2_with fail
                refine ⟨?_, ?measure⟩
                case measure => simp [intOf]; omega
                exact ⟨k + 1, by omega, by go_num, HTF⟩
        · obtain rfl : k = r.n + r.m := by omega
          have hgk : ¬ ((r.n + r.m : Nat) : Int) < (r.n : Int) + (r.m : Int) := by omega
          have hgk' : ¬ (r.n : Int) + (r.m : Int) < (r.n : Int) + (r.m : Int) := by omega
          go_wp2_with fail
          go_ret
          exact ⟨g, cap, R, C, rfl, ⟨HT.out.t.r, HT.out.t.c, fun a ha => ⟨by have := (HT.out.t.d a ha).1; omega, (HT.out.t.d a ha).2⟩, HT.out.t.i, by have := HT.out.t.g; omega⟩, HT.out.l⟩
end Go.Proofs.YtnnikeolgknfoaaGreat

set_option linter.unusedSimpArgs false
set_option linter.unusedVariables false
namespace Go.Proofs.YtnnikeolgknfoaaGreat
open Go.RowKit Go.Shelf

/-- which places were met -/
abbrev metV (M : Nat → Bool) : Value := .agg #[.bool (M 0), .bool (M 1), .bool (M 2), .bool (M 3), .bool (M 4), .bool (M 5), .bool (M 6)]
structure M7 (w : World) (b : Nat) (M : Nat → Bool) : Prop where
  c : ∀ k, k < 7 → w.cell? ⟨b, k, none⟩ = some (.bool (M k))
  f : ∀ k, k < 7 → w.frozen? ⟨b, k, none⟩ = false
theorem M7.same {w w' : World} {b : Nat} {M : Nat → Bool} (h : M7 w b M) (hs : w'.heap[b]? = w.heap[b]?) : M7 w' b M := ⟨fun k hk => cell_same hs (h.c k hk), fun k hk => fro_same hs (h.f k hk)⟩
theorem M7.lt {w : World} {b : Nat} {M : Nat → Bool} (h : M7 w b M) : b < w.heap.size := World.block_lt_of_cell? w _ (h.c 0 (by omega))
theorem M7.put {w : World} {b : Nat} {M : Nat → Bool} (h : M7 w b M) {a : Nat} (ha : a < 7) : M7 (w.setCell ⟨b, a, none⟩ (.bool true)) b (metP M a) := by
  refine ⟨fun k hk => ?_, fun k hk => Fs _ (h.f k hk)⟩
  unfold metP
  by_cases e : k = a
  · subst e
    rw [if_pos rfl]
    exact World.cell?_setCell_same' _ _ _ (by rw [h.c k hk]; rfl)
  · rw [if_neg e, World.cell?_setCell_other _ _ _ _ (by intro e2; injection e2 with _ e2 _; exact e e2.symm)]
    exact h.c k hk
/-- the contract of least, so far down -/
def LeastC (r : Rw) (N b u : Nat) (T : Nat → Nat → Int) : Prop :=
  ∀ (a : Nat) (M : Nat → Bool) (lo g cap : Nat) (R C : Nat → Nat) (W : World), a < N → M a = false → cntM M N ≤ u → TabAt W lo N g R C T →
    Calls Tryz.prog 137 #[.slice (some ⟨g, 0, none⟩) N cap, .int .i64 (a : Int), .int .i64 (b : Int), metV M] W fun e W' => e = .returned (.int .i64 (lst T N b u a M)) ∧ Below W.heap.size W W'

set_option maxRecDepth 100000 in
set_option maxHeartbeats 8000000 in
theorem least_step (r : Rw) (hr : r.ok) (N b u : Nat) (hN : N ≤ 7) (hb : b < N) (hu : u ≤ 7) (T : Nat → Nat → Int) (hT : TbOk r r.has T) (IH : LeastC r N b u T) : LeastC r N b (u + 1) T := by
  intro a M lo g cap R C W ha hMa hcnt htab
  have HT := Lib.hid htab
  have HIH := Lib.hid IH
  have HOK := Lib.hid hr
  have HTO := Lib.hid hT
  have hcn := cntM_put hMa N
  rw [if_pos ha] at hcn
  have hcu : cntM (metP M a) N ≤ u := by omega
  have hg := (htab.lt (a := a) ha).2
  have hda := htab.d a ha
  obtain ⟨t0, t1⟩ := And.intro (htab.r a ha) (htab.c a ha b hb).1
  have ha0 : (0 : Int) ≤ (a : Int) := by omega
  have han : (a : Int) < (N : Int) := by omega
  have ha7 : (a : Int) < 7 := by omega
  have hb0 : (0 : Int) ≤ (b : Int) := by omega
  have hbn : (b : Int) < (N : Int) := by omega
  have hRa := (htab.lt (a := a) ha).1
  obtain ⟨M', hM'⟩ : ∃ M', M' = metP M a := ⟨_, rfl⟩
  have hlu : lst T N b (u + 1) a M = lstN T b a M' (fun c => lst T N b u c M') N := by rw [hM']; rfl
  have HLU := Lib.hid hlu
  rw [← hM'] at hcu
  have HM' := Lib.hid hM'
  clear htab IH hr hT hcn hcnt hlu hM'
  go_enter Tryz.func137, Tryz.ntmps137
  go_upto_region 1 with fail
  refine wp_world (fun w' => M7 w' W.heap.size M ∧ Below W.heap.size W w') ⟨⟨fun k hk => ?_, fun k hk => by simp [go_sem]⟩, (by repeat (first | (with_reducible first | exact Below.refl _ _ | assumption | refine Below.drew ?_) | ((with_reducible first | refine Lc ?_ ?_ _ | refine Ls ?_ ?_ _ | refine Lv (by assumption) ?_ ?_); · first | exact Nat.le_refl _ | omega | (dsimp only; omega) | (simp only [World.size_alloc, World.size_drew, World.heap_drewN]; omega) | (simp; omega))))⟩ ?_
  · have h7 : k = 0 ∨ k = 1 ∨ k = 2 ∨ k = 3 ∨ k = 4 ∨ k = 5 ∨ k = 6 := by omega
    rcases h7 with rfl | rfl | rfl | rfl | rfl | rfl | rfl <;> simp [go_sem]
  rintro w0 ⟨hm0, hb00⟩
  have HM0 := Lib.hid hm0
  have HB0 := Lib.hid hb00
  have t0 := Kb hb00 t0
  have t1 := Kb hb00 t1
  have x0 := hm0.c a (by omega)
  have x1 := hm0.f a (by omega)
  have hs0 := hm0.lt
  clear hm0 hb00
  go_upto_region 3 with fail
  refine wp_world (fun w' => M7 w' W.heap.size M' ∧ Below W.heap.size W w') ⟨by rw [HM'.out]; exact HM0.out.put (by omega), HB0.out.setCell (Nat.le_refl _) _⟩ ?_
  rintro w1 ⟨hm1, hb1⟩
  have HM1 := Lib.hid hm1
  have HB1 := Lib.hid hb1
  have hs1 := hm1.lt
  have hbdT := HTO.out.bd HOK.out a b
  clear hm1 hb1 t0 t1 x0 x1 hs0 HM0 HB0
  go_wp2_with fail
  go_loopw [9, 10] (fun v i wr => ∃ (c : Nat) (z : Int), c ≤ N ∧ i = .int .i64 c ∧ v = .int .i64 z ∧ Hid (z = lstN T b a M' (fun c => lst T N b u c M') c) ∧ (-30000 ≤ z ∧ z ≤ 100000000) ∧ Hid (Below w1.heap.size w1 wr)) (fun _ i _ => N - (intOf i).toNat)
  case atStart => exact ⟨0, T a b, Nat.zero_le _, rfl, rfl, Lib.hid rfl, by have ho : open8 = 100000000 := rfl; omega, Lib.hid (Below.refl _ _)⟩
  case round =>
    obtain ⟨c, z, hc, rfl, rfl, HZ, hz, HB⟩ := hrel
    obtain ⟨wo, rfl⟩ : ∃ wo, wo = wr := ⟨_, rfl⟩
    have HBW := Lib.hid (HB1.out.trans (HB.out.mono (by omega)))
    by_cases hlt : c < N
    · have hc0 : (0 : Int) ≤ (c : Int) := by omega
      have hcN : (c : Int) < (N : Int) := by omega
      have hc7 : (c : Int) < 7 := by omega
      have ec : IntKind.i64.wrap ((c : Int) + 1) = (c : Int) + 1 := IntWalk.i64_in _ (by omega)
      have HMo := Lib.hid (HM1.out.same (HB.out.block _ hs1))
      have HTo := Lib.hid (HT.out.later HBW.out)
      have HST : Hid (lstN T b a M' (fun c => lst T N b u c M') (c + 1) = if c = b ∨ M' c = true ∨ T a c = open8 then z else if T a c + lst T N b u c M' < z then T a c + lst T N b u c M' else z) := Lib.hid (by rw [HZ.out]; rfl)
      obtain ⟨t0, t1⟩ := And.intro (HTo.out.r a ha) (HTo.out.c a ha c hlt).1
      have xc := HMo.out.c c (by omega)
      by_cases h1 : c = b
      · have g1 : ((c : Int) == (b : Int)) = true := by rw [beq_iff_eq]; omega
        have HE : Hid (lstN T b a M' (fun c => lst T N b u c M') (c + 1) = z) := Lib.hid (by rw [HST.out, if_pos (.inl h1)])
        clear h1
        go_wp2_with fail
        refine ⟨?_, ?measure⟩
        case measure => simp [intOf]; omega
        exact ⟨c + 1, z, by omega, by go_num, rfl, Lib.hid HE.out.symm, hz, HB⟩
      · have g1 : ((c : Int) == (b : Int)) = false := by rw [beq_eq_false_iff_ne]; omega
        cases h2 : M' c with
        | true =>
          have HE : Hid (lstN T b a M' (fun c => lst T N b u c M') (c + 1) = z) := Lib.hid (by rw [HST.out, if_pos (.inr (.inl h2))])
          rw [h2] at xc
          go_wp2_with fail
          refine ⟨?_, ?measure⟩
          case measure => simp [intOf]; omega
          exact ⟨c + 1, z, by omega, by go_num, rfl, Lib.hid HE.out.symm, hz, HB⟩
        | false =>
          rw [h2] at xc
          have H2 := Lib.hid h2
          clear h2
          have hbc := HTO.out.bd HOK.out a c
          obtain ⟨y, hy⟩ : ∃ y, y = T a c := ⟨_, rfl⟩
          have HY := Lib.hid hy
          rw [← hy] at t1 hbc HST
          clear hy
          have ho : open8 = 100000000 := rfl
          by_cases h3 : y = 100000000
          · have g3 : (y == 100000000) = true := by rw [beq_iff_eq]; exact h3
            have HE : Hid (lstN T b a M' (fun c => lst T N b u c M') (c + 1) = z) := Lib.hid (by rw [HST.out, if_pos (.inr (.inr (by rw [h3]; rfl)))])
            clear h3
            go_wp2_with fail
            refine ⟨?_, ?measure⟩
            case measure => simp [intOf]; omega
            exact ⟨c + 1, z, by omega, by go_num, rfl, Lib.hid HE.out.symm, hz, HB⟩
          · have g3 : (y == 100000000) = false := by rw [beq_eq_false_iff_ne]; exact h3
            have hy3 : y ≤ 3100 := by omega
            have hy4 : -3100 ≤ y := hbc.1
            have hlb := lst_bd HOK.out HTO.out N b u c M'
            obtain ⟨x, hx⟩ : ∃ x, x = lst T N b u c M' := ⟨_, rfl⟩
            have HX := Lib.hid hx
            rw [← hx] at hlb HST
            have HEE : Hid (lstN T b a M' (fun c => lst T N b u c M') (c + 1) = if y + x < z then y + x else z) := Lib.hid (by rw [HST.out, if_neg (by
              rintro (e | e | e)
              · exact h1 e
              · rw [H2.out] at e; cases e
              · exact h3 (by rw [e]; rfl))])
            have hxx : -24800 ≤ x ∧ x ≤ 100000000 := by omega
            have ew : IntKind.i64.wrap (y + x) = y + x := IntWalk.i64_in _ (by omega)
            have HCL : Hid (∀ w, Below wo.heap.size wo w → Calls Tryz.prog 137 #[.slice (some ⟨g, 0, none⟩) N cap, .int .i64 (c : Int), .int .i64 (b : Int), metV M'] w fun e W' => e = .returned (.int .i64 x) ∧ Below w.heap.size w W') := Lib.hid (fun w hw => by
              rw [HX.out]
              exact HIH.out c M' lo g cap R C w hlt H2.out hcu (HTo.out.later hw))
            clear hx h1 h3 HST ho hlb hbc
            go_upto_region 7 with fail
            have y0 := cell_regrown t0
            have y1 := cell_regrown t1
            have m0 := cell_regrown (HMo.out.c 0 (by omega))
            have m1 := cell_regrown (HMo.out.c 1 (by omega))
            have m2 := cell_regrown (HMo.out.c 2 (by omega))
            have m3 := cell_regrown (HMo.out.c 3 (by omega))
            have m4 := cell_regrown (HMo.out.c 4 (by omega))
            have m5 := cell_regrown (HMo.out.c 5 (by omega))
            have m6 := cell_regrown (HMo.out.c 6 (by omega))
            clear t0 t1 xc
            refine region_qbw (by kernel_rfl) (by kernel_rfl) ?_
            repeat (first | go_big_quiet_step ((go_at_call 137; exact Calls.regrown_of (HCL.out _ (below_regrown _ _ _)))) | quiet_step ((go_at_call 137; exact Calls.regrown_of (HCL.out _ (below_regrown _ _ _)))))
            refine wpQuiet_nil ?_; intro wq hbq
            have HB2 := Lib.hid (HB.out.trans (hbq.mono HB.out.size))
            clear y0 y1 m0 m1 m2 m3 m4 m5 m6 hbq
            by_cases h4 : y + x < z
            · have HE : Hid (y + x = lstN T b a M' (fun c => lst T N b u c M') (c + 1)) := Lib.hid (by rw [HEE.out, if_pos h4])
              go_wp2_with fail
              refine ⟨?_, ?measure⟩
              case measure => simp [intOf]; omega
              exact ⟨c + 1, y + x, by omega, by go_num, rfl, HE, by omega, HB2⟩
            · have HE : Hid (z = lstN T b a M' (fun c => lst T N b u c M') (c + 1)) := Lib.hid (by rw [HEE.out, if_neg h4])
              go_wp2_with fail
              refine ⟨?_, ?measure⟩
              case measure => simp [intOf]; omega
              exact ⟨c + 1, z, by omega, by go_num, rfl, HE, hz, HB2⟩
    · obtain rfl : c = N := by omega
      have hge : ¬ (c : Int) < (c : Int) := by omega
      have HE : Hid (lst T c b (u + 1) a M = z) := Lib.hid (by rw [HLU.out, HZ.out])
      obtain ⟨t0, t1⟩ := And.intro ((HT.out.later HBW.out).r a ha) ha
      go_wp2_with fail
      go_ret
      exact ⟨by rw [HE.out]; rfl, HBW.out⟩
theorem least_any (r : Rw) (hr : r.ok) (N b : Nat) (hN : N ≤ 7) (hb : b < N) (T : Nat → Nat → Int) (hT : TbOk r r.has T) : ∀ u, u ≤ 7 → LeastC r N b u T
  | 0, _ => fun a M lo g cap R C W ha hMa hcnt _ => by
    have := cntM_put hMa N
    rw [if_pos ha] at this
    omega
  | u + 1, hu => least_step r hr N b u hN hb (by omega) T hT (least_any r hr N b hN hb T hT u (by omega))

set_option maxRecDepth 100000 in
set_option maxHeartbeats 4000000 in
theorem walk_anyR (r : Rw) (hr : r.ok) (a b : Nat) (ha : a < r.n + 1) (hb : b < r.n + 1) (lo g cap : Nat) (R C : Nat → Nat) (W : World) (ht : TabAt W lo (r.n + 1) g R C r.tb) :
    Calls Tryz.prog 100 #[.slice (some ⟨g, 0, none⟩) (r.n + 1) cap, .int .i64 (a : Int), .int .i64 (b : Int)] W fun e W' => e = .returned (.int .i64 (r.walkR a b)) ∧ Below W.heap.size W W' := by
  have hn6 := hr.n6
  have HC := Lib.hid (least_any r hr (r.n + 1) b (by omega) hb r.tb Rw.tb_ok 7 (by omega) a (fun _ => false) lo g cap R C W ha rfl (by rw [cntM_zero]; omega) ht)
  have HW : Hid (r.walkR a b = lst r.tb (r.n + 1) b 7 a (fun _ => false)) := Lib.hid rfl
  rw [HW.out]
  clear ht
  go_enter Tryz.func100, Tryz.ntmps100
  go_wp2_with fail
  refine HC.out.mono ?_
  rintro e w1 ⟨rfl, hb1⟩
  go_wp2_with fail
  go_ret
  exact ⟨rfl, hb1⟩
end Go.Proofs.YtnnikeolgknfoaaGreat

set_option linter.unusedSimpArgs false
set_option linter.unusedVariables false
namespace Go.Proofs.YtnnikeolgknfoaaGreat
open Go.RowKit Go.Shelf

theorem RwRow.onW {w w' : World} {B : Nat} {r : Rw} {bA : Option Addr} {bc : Nat} {dA : Option Addr} {dc : Nat} {vA : Option Addr} {vc : Nat} (h : RwRow w B r bA bc dA dc vA vc) (hb : Below B w w') : RwRow w' w'.heap.size r bA bc dA dc vA vc := (h.later hb).up (h.later hb).lt (Nat.le_refl _)
/-- a row that is right clashes -/
def Rw.clB (r : Rw) : Bool := !r.round.isEmpty
theorem Rw.clB_yes {r : Rw} : r.clB = true ↔ r.round ≠ [] := by
  unfold Rw.clB
  cases r.round <;> simp
theorem Rw.clB_no {r : Rw} : r.clB = false ↔ r.round = [] := by
  unfold Rw.clB
  cases r.round <;> simp

set_option maxRecDepth 100000 in
set_option maxHeartbeats 4000000 in
theorem rclashes_any (r : Rw) (hr : r.ok) (bA dA vA : Option Addr) (bc dc vc : Nat) (W : World) (hrow : RwRow W W.heap.size r bA bc dA dc vA vc) :
    Calls Tryz.prog 73 #[rwV bA r.n bc dA r.d dc vA r.m vc] W fun e W' => e = .returned (.bool r.clB) ∧ Below W.heap.size W W' := by
  have H0 := Lib.hid hrow
  have HOK := Lib.hid hr
  have hn6 := hr.n6
  clear hrow hr
  go_enter Tryz.func73, Tryz.ntmps73
  go_wp2_with fail
  refine (table_any r HOK.out bA dA vA bc dc vc _ ((H0.out.later (by repeat (first | (with_reducible first | exact Below.refl _ _ | assumption | refine Below.drew ?_) | ((with_reducible first | refine Lc ?_ ?_ _ | refine Ls ?_ ?_ _ | refine Lv (by assumption) ?_ ?_); · first | exact Nat.le_refl _ | omega | (dsimp only; omega) | (simp only [World.size_alloc, World.size_drew, World.heap_drewN]; omega) | (simp; omega))))).up (by first | exact Nat.le_refl _ | omega | (simp; done) | (simp; omega) | (simp at *; omega)) (by first | exact Nat.le_refl _ | omega | (simp; done) | (simp; omega) | (simp at *; omega)))).mono ?_
  rintro e w1 ⟨g, cap, R, C, rfl, ht, hb1⟩
  have HB1 := Lib.hid (show Below W.heap.size W w1 from (by repeat (first | (with_reducible first | exact Below.refl _ _ | refine Below.drew ?_ | refine below_drewN ?_ _) | ((with_reducible first | refine Lc ?_ ?_ _ | refine Ls ?_ ?_ _ | refine Lv (by assumption) ?_ ?_); · first | exact Nat.le_refl _ | omega | (simp; done) | (simp; omega) | (simp at *; omega)))))
  have HT := Lib.hid ht
  have hs1 := HB1.out.size
  clear hb1 ht
  go_wp2_with fail
  go_loopw [4] (fun i wr => ∃ k : Nat, k ≤ r.n + 1 ∧ i = .int .i64 k ∧ Hid (∀ j, j < k → 0 ≤ r.walkR j j) ∧ Hid (Below w1.heap.size w1 wr)) (fun i _ => r.n + 1 - (intOf i).toNat)
  case atStart => exact ⟨0, Nat.zero_le _, rfl, Lib.hid (fun j hj => absurd hj (by omega)), Lib.hid (Below.refl _ _)⟩
  case round =>
    obtain ⟨k, hk, rfl, HA, HB⟩ := hrel
    obtain ⟨wo, rfl⟩ : ∃ wo, wo = wr := ⟨_, rfl⟩
    by_cases hlt : k < r.n + 1
    · have hk0 : (0 : Int) ≤ (k : Int) := by omega
      have hkn : (k : Int) < (r.n : Int) + 1 := by omega
      have ek : IntKind.i64.wrap ((k : Int) + 1) = (k : Int) + 1 := IntWalk.i64_in _ (by omega)
      go_wp2_with fail
      refine (walk_anyR r HOK.out k k hlt hlt _ g cap R C wo (HT.out.later HB.out)).mono ?_
      rintro e w2 ⟨rfl, hb2⟩
      have HB2 := Lib.hid (HB.out.trans (hb2.mono HB.out.size))
      obtain ⟨z, hz⟩ : ∃ z, z = r.walkR k k := ⟨_, rfl⟩
      have HZ := Lib.hid hz
      rw [← hz]
      clear hz hb2
      by_cases h0 : z < 0
      · have HR : Hid (r.clB = true) := Lib.hid (Rw.clB_yes.2 ((Rw.walk_torn HOK.out).1 ⟨k, by omega, by rw [← HZ.out]; exact h0⟩))
        go_wp2_with fail
        go_ret
        exact ⟨by rw [HR.out]; rfl, HB1.out.trans (HB2.out.mono hs1)⟩
      · go_wp2_with fail
        go_roundw
        case rel => exact ⟨k + 1, by omega, by go_num, Lib.hid (fun j hj => by
          by_cases e : j = k
          · rw [e, ← HZ.out]; omega
          · exact HA.out j (by omega)), HB2⟩
        case measure => simp [intOf]; omega
    · obtain rfl : k = r.n + 1 := by omega
      have hge : ¬ ((r.n + 1 : Nat) : Int) < (r.n : Int) + 1 := by omega
      have hge' : ¬ (r.n : Int) + 1 < (r.n : Int) + 1 := by omega
      have HR : Hid (r.clB = false) := Lib.hid (Rw.clB_no.2 (Classical.not_not.1 (fun hne => by
        obtain ⟨a, ha, hlt⟩ := (Rw.walk_torn HOK.out).2 hne
        exact absurd hlt (Int.not_lt.2 (HA.out a (by omega))))))
      go_wp2_with fail
      go_ret
      exact ⟨by rw [HR.out]; rfl, HB1.out.trans (HB.out.mono hs1)⟩

set_option maxRecDepth 100000 in
set_option maxHeartbeats 4000000 in
theorem rbins_any (r : Rw) (hn : r.n ≤ 1000) (f t : Int) (bA dA vA : Option Addr) (bc dc vc : Nat) (W : World) :
    Calls Tryz.prog 107 #[rwV bA r.n bc dA r.d dc vA r.m vc, .int .i64 f, .int .i64 t] W fun e W' => e = .returned (.int .i64 (r.binsErr f t)) ∧ Below W.heap.size W W' := by
  have e1 : IntKind.i64.wrap ((r.n : Int) - 1) = (r.n : Int) - 1 := IntWalk.i64_in _ (by omega)
  cases h1 : inB f 0 ((r.n : Int) - 1) with
  | false =>
    have HR : Hid (r.binsErr f t = 2) := Lib.hid (by unfold Rw.binsErr; rw [h1]; simp)
    go_enter Tryz.func107, Tryz.ntmps107
    go_wp2_with (go_at_call 89; refine (off_any _ _ _ _).mono ?_; rintro e w' ⟨rfl, rfl⟩)
    go_ret
    exact ⟨by rw [HR.out]; rfl, (by repeat (first | (with_reducible first | exact Below.refl _ _ | refine Below.drew ?_ | refine below_drewN ?_ _) | ((with_reducible first | refine Lc ?_ ?_ _ | refine Ls ?_ ?_ _ | refine Lv (by assumption) ?_ ?_); · first | exact Nat.le_refl _ | omega | (simp; done) | (simp; omega) | (simp at *; omega))))⟩
  | true =>
    cases h2 : inB t 0 ((r.n : Int) - 1) with
    | false =>
      have HR : Hid (r.binsErr f t = 2) := Lib.hid (by unfold Rw.binsErr; rw [h1, h2]; simp)
      go_enter Tryz.func107, Tryz.ntmps107
      go_wp2_with (go_at_call 89; refine (off_any _ _ _ _).mono ?_; rintro e w' ⟨rfl, rfl⟩)
      go_ret
      exact ⟨by rw [HR.out]; rfl, (by repeat (first | (with_reducible first | exact Below.refl _ _ | refine Below.drew ?_ | refine below_drewN ?_ _) | ((with_reducible first | refine Lc ?_ ?_ _ | refine Ls ?_ ?_ _ | refine Lv (by assumption) ?_ ?_); · first | exact Nat.le_refl _ | omega | (simp; done) | (simp; omega) | (simp at *; omega))))⟩
    | true =>
      by_cases h3 : t < f
      · have HR : Hid (r.binsErr f t = 6) := Lib.hid (by unfold Rw.binsErr; rw [h1, h2, if_neg (by decide), if_pos h3])
        go_enter Tryz.func107, Tryz.ntmps107
        go_wp2_with (go_at_call 89; refine (off_any _ _ _ _).mono ?_; rintro e w' ⟨rfl, rfl⟩)
        go_ret
        exact ⟨by rw [HR.out]; rfl, (by repeat (first | (with_reducible first | exact Below.refl _ _ | refine Below.drew ?_ | refine below_drewN ?_ _) | ((with_reducible first | refine Lc ?_ ?_ _ | refine Ls ?_ ?_ _ | refine Lv (by assumption) ?_ ?_); · first | exact Nat.le_refl _ | omega | (simp; done) | (simp; omega) | (simp at *; omega))))⟩
      · have HR : Hid (r.binsErr f t = 0) := Lib.hid (by unfold Rw.binsErr; rw [h1, h2, if_neg (by decide), if_neg h3])
        go_enter Tryz.func107, Tryz.ntmps107
        go_wp2_with (go_at_call 89; refine (off_any _ _ _ _).mono ?_; rintro e w' ⟨rfl, rfl⟩)
        go_ret
        exact ⟨by rw [HR.out]; rfl, (by repeat (first | (with_reducible first | exact Below.refl _ _ | refine Below.drew ?_ | refine below_drewN ?_ _) | ((with_reducible first | refine Lc ?_ ?_ _ | refine Ls ?_ ?_ _ | refine Lv (by assumption) ?_ ?_); · first | exact Nat.le_refl _ | omega | (simp; done) | (simp; omega) | (simp at *; omega))))⟩

set_option maxRecDepth 100000 in
set_option maxHeartbeats 4000000 in
theorem rasked_any (r : Rw) (f t : Int) (bA dA vA : Option Addr) (bc dc vc : Nat) (W : World) (hrow : RwRow W W.heap.size r bA bc dA dc vA vc) :
    Calls Tryz.prog 98 #[rwV bA r.n bc dA r.d dc vA r.m vc, .int .i64 f, .int .i64 t] W fun e W' => e = .returned (.int .i64 (r.askErr f t)) ∧ Below W.heap.size W W' := by
  have H0 := Lib.hid hrow
  have hn1 := hrow.n1
  clear hrow
  go_enter Tryz.func98, Tryz.ntmps98
  go_wp2_with fail
  refine (rcheck_any r bA dA vA bc dc vc _ ((H0.out.later (by repeat (first | (with_reducible first | exact Below.refl _ _ | assumption | refine Below.drew ?_) | ((with_reducible first | refine Lc ?_ ?_ _ | refine Ls ?_ ?_ _ | refine Lv (by assumption) ?_ ?_); · first | exact Nat.le_refl _ | omega | (dsimp only; omega) | (simp only [World.size_alloc, World.size_drew, World.heap_drewN]; omega) | (simp; omega))))).up (by first | exact Nat.le_refl _ | omega | (simp; done) | (simp; omega) | (simp at *; omega)) (by first | exact Nat.le_refl _ | omega | (simp; done) | (simp; omega) | (simp at *; omega)))).mono ?_
  rintro e w1 ⟨rfl, hb1⟩
  have HB1 := Lib.hid (show Below W.heap.size W w1 from (by repeat (first | (with_reducible first | exact Below.refl _ _ | refine Below.drew ?_ | refine below_drewN ?_ _) | ((with_reducible first | refine Lc ?_ ?_ _ | refine Ls ?_ ?_ _ | refine Lv (by assumption) ?_ ?_); · first | exact Nat.le_refl _ | omega | (simp; done) | (simp; omega) | (simp at *; omega)))))
  have c0 : w1.cell? ⟨W.heap.size, 0, none⟩ = some (.slice bA r.n bc) := Kb hb1 (by (repeat' refine And.intro ?_ ?_) <;> (repeat (first | with_reducible assumption | (simp; done) | (with_reducible first | refine Kd ?_ | refine Kn ?_ | refine Kb (by assumption) ?_) | ((with_reducible first | refine Kw ?_ ?_ | refine Fw ?_) <;> first | with_reducible rfl | (simp; done)) | (with_reducible first | refine Ka _ ?_ | refine Ks _ (by first | exact Nat.le_refl _ | omega | (simp; done) | (simp; omega)) ?_ | refine Fd ?_ | refine Fn ?_ | refine Fb (by assumption) (by first | exact Nat.le_refl _ | omega | (simp; done) | (simp; omega)) ?_ | refine Fa _ (by first | exact Nat.le_refl _ | omega | (simp; done) | (simp; omega)) ?_ | refine Fs _ ?_))))
  have c1 : w1.cell? ⟨W.heap.size, 1, none⟩ = some (.slice dA r.d dc) := Kb hb1 (by (repeat' refine And.intro ?_ ?_) <;> (repeat (first | with_reducible assumption | (simp; done) | (with_reducible first | refine Kd ?_ | refine Kn ?_ | refine Kb (by assumption) ?_) | ((with_reducible first | refine Kw ?_ ?_ | refine Fw ?_) <;> first | with_reducible rfl | (simp; done)) | (with_reducible first | refine Ka _ ?_ | refine Ks _ (by first | exact Nat.le_refl _ | omega | (simp; done) | (simp; omega)) ?_ | refine Fd ?_ | refine Fn ?_ | refine Fb (by assumption) (by first | exact Nat.le_refl _ | omega | (simp; done) | (simp; omega)) ?_ | refine Fa _ (by first | exact Nat.le_refl _ | omega | (simp; done) | (simp; omega)) ?_ | refine Fs _ ?_))))
  have c2 : w1.cell? ⟨W.heap.size, 2, none⟩ = some (.slice vA r.m vc) := Kb hb1 (by (repeat' refine And.intro ?_ ?_) <;> (repeat (first | with_reducible assumption | (simp; done) | (with_reducible first | refine Kd ?_ | refine Kn ?_ | refine Kb (by assumption) ?_) | ((with_reducible first | refine Kw ?_ ?_ | refine Fw ?_) <;> first | with_reducible rfl | (simp; done)) | (with_reducible first | refine Ka _ ?_ | refine Ks _ (by first | exact Nat.le_refl _ | omega | (simp; done) | (simp; omega)) ?_ | refine Fd ?_ | refine Fn ?_ | refine Fb (by assumption) (by first | exact Nat.le_refl _ | omega | (simp; done) | (simp; omega)) ?_ | refine Fa _ (by first | exact Nat.le_refl _ | omega | (simp; done) | (simp; omega)) ?_ | refine Fs _ ?_))))
  clear hb1
  by_cases h0 : r.check = 0
  · rw [h0]
    have HE := Lib.hid h0
    have HOK := Lib.hid (Rw.check_ok.1 h0)
    clear h0
    go_wp2_with fail
    refine (rbins_any r hn1 f t bA dA vA bc dc vc _).mono ?_
    rintro e w2 ⟨rfl, hb2⟩
    have HB2 := Lib.hid (HB1.out.trans (hb2.mono HB1.out.size))
    have c0 := Kb hb2 c0
    have c1 := Kb hb2 c1
    have c2 := Kb hb2 c2
    clear hb2
    by_cases h1 : r.binsErr f t = 0
    · rw [h1]
      have HE1 := Lib.hid h1
      clear h1
      go_wp2_with fail
      refine (rclashes_any r HOK.out bA dA vA bc dc vc _ (H0.out.onW HB2.out)).mono ?_
      rintro e w3 ⟨rfl, hb3⟩
      have HB3 := Lib.hid (HB2.out.trans (hb3.mono HB2.out.size))
      clear hb3 c0 c1 c2
      cases h2 : r.clB with
      | true =>
        have HR : Hid (r.askErr f t = 7) := Lib.hid (by unfold Rw.askErr; rw [if_neg (by rw [HE.out]; decide), if_neg (by rw [HE1.out]; decide), if_neg (fun e => Rw.clB_yes.1 h2 (List.length_eq_zero_iff.1 e))])
        go_wp2_with fail
        go_ret
        exact ⟨by rw [HR.out]; rfl, HB3.out⟩
      | false =>
        have HR : Hid (r.askErr f t = 0) := Lib.hid (by unfold Rw.askErr; rw [if_neg (by rw [HE.out]; decide), if_neg (by rw [HE1.out]; decide), if_pos (by rw [Rw.clB_no.1 h2]; rfl)])
        go_wp2_with fail
        go_ret
        exact ⟨by rw [HR.out]; rfl, HB3.out⟩
    · have hne : (r.binsErr f t != 0) = true := by simpa using h1
      have HR : Hid (r.askErr f t = r.binsErr f t) := Lib.hid (by unfold Rw.askErr; rw [if_neg (by rw [HE.out]; decide), if_pos h1])
      clear h1
      go_wp2_with fail
      go_ret
      exact ⟨by rw [HR.out]; rfl, HB2.out⟩
  · have hne : (r.check != 0) = true := by simpa using h0
    have HR : Hid (r.askErr f t = r.check) := Lib.hid (by unfold Rw.askErr; rw [if_pos h0])
    clear h0
    go_wp2_with fail
    go_ret
    exact ⟨by rw [HR.out]; rfl, HB1.out⟩
theorem Rw.ask_fit (r : Rw) : r.askErr 0 0 = r.fitErr := by
  unfold Rw.askErr Rw.fitErr
  by_cases h : r.check = 0
  · have hok := Rw.check_ok.1 h
    have h1 := hok.n1
    have hb : r.binsErr 0 0 = 0 := by
      unfold Rw.binsErr
      rw [if_neg (by simp only [inB]; simp; omega), if_neg (by omega)]
    simp only [h, hb, ne_eq, not_true_eq_false, if_false]
  · rw [if_pos h, if_pos h]
set_option maxRecDepth 100000 in
set_option maxHeartbeats 4000000 in
theorem rfitting_any (r : Rw) (bA dA vA : Option Addr) (bc dc vc : Nat) (W : World) (hrow : RwRow W W.heap.size r bA bc dA dc vA vc) :
    Calls Tryz.prog 45 #[rwV bA r.n bc dA r.d dc vA r.m vc] W fun e W' => e = .returned (.int .i64 r.fitErr) ∧ Below W.heap.size W W' := by
  have H0 := Lib.hid hrow
  clear hrow
  go_enter Tryz.func45, Tryz.ntmps45
  go_wp2_with fail
  refine (rasked_any r 0 0 bA dA vA bc dc vc _ ((H0.out.later (by repeat (first | (with_reducible first | exact Below.refl _ _ | assumption | refine Below.drew ?_) | ((with_reducible first | refine Lc ?_ ?_ _ | refine Ls ?_ ?_ _ | refine Lv (by assumption) ?_ ?_); · first | exact Nat.le_refl _ | omega | (dsimp only; omega) | (simp only [World.size_alloc, World.size_drew, World.heap_drewN]; omega) | (simp; omega))))).up (by first | exact Nat.le_refl _ | omega | (simp; done) | (simp; omega) | (simp at *; omega)) (by first | exact Nat.le_refl _ | omega | (simp; done) | (simp; omega) | (simp at *; omega)))).mono ?_
  rintro e w1 ⟨rfl, hb1⟩
  have HB1 := Lib.hid (show Below W.heap.size W w1 from (by repeat (first | (with_reducible first | exact Below.refl _ _ | refine Below.drew ?_ | refine below_drewN ?_ _) | ((with_reducible first | refine Lc ?_ ?_ _ | refine Ls ?_ ?_ _ | refine Lv (by assumption) ?_ ?_); · first | exact Nat.le_refl _ | omega | (simp; done) | (simp; omega) | (simp at *; omega)))))
  clear hb1
  go_wp2_with fail
  go_ret
  exact ⟨by rw [← Rw.ask_fit]; rfl, HB1.out⟩

set_option maxRecDepth 100000 in
set_option maxHeartbeats 4000000 in
theorem rSum_any (r : Rw) (f t : Int) (bA dA vA : Option Addr) (bc dc vc : Nat) (W : World) (hrow : RwRow W W.heap.size r bA bc dA dc vA vc) :
    Calls Tryz.prog 32 #[rwV bA r.n bc dA r.d dc vA r.m vc, .int .i64 f, .int .i64 t] W fun e W' => e = .returned (.tuple #[spV (r.sumS f t), .int .i64 (r.askErr f t)]) ∧ Below W.heap.size W W' := by
  have H0 := Lib.hid hrow
  clear hrow
  go_enter Tryz.func32, Tryz.ntmps32
  go_wp2_with fail
  refine (rasked_any r f t bA dA vA bc dc vc _ ((H0.out.later (by repeat (first | (with_reducible first | exact Below.refl _ _ | assumption | refine Below.drew ?_) | ((with_reducible first | refine Lc ?_ ?_ _ | refine Ls ?_ ?_ _ | refine Lv (by assumption) ?_ ?_); · first | exact Nat.le_refl _ | omega | (dsimp only; omega) | (simp only [World.size_alloc, World.size_drew, World.heap_drewN]; omega) | (simp; omega))))).up (by first | exact Nat.le_refl _ | omega | (simp; done) | (simp; omega) | (simp at *; omega)) (by first | exact Nat.le_refl _ | omega | (simp; done) | (simp; omega) | (simp at *; omega)))).mono ?_
  rintro e w1 ⟨rfl, hb1⟩
  have HB1 := Lib.hid (show Below W.heap.size W w1 from (by repeat (first | (with_reducible first | exact Below.refl _ _ | refine Below.drew ?_ | refine below_drewN ?_ _) | ((with_reducible first | refine Lc ?_ ?_ _ | refine Ls ?_ ?_ _ | refine Lv (by assumption) ?_ ?_); · first | exact Nat.le_refl _ | omega | (simp; done) | (simp; omega) | (simp at *; omega)))))
  have hsz : W.heap.size + 2 ≤ w1.heap.size := by have := hb1.size; simp only [World.size_alloc, World.size_drew] at this; omega
  have c0 : w1.cell? ⟨W.heap.size, 0, none⟩ = some (.slice bA r.n bc) := Kb hb1 (by (repeat' refine And.intro ?_ ?_) <;> (repeat (first | with_reducible assumption | (simp; done) | (with_reducible first | refine Kd ?_ | refine Kn ?_ | refine Kb (by assumption) ?_) | ((with_reducible first | refine Kw ?_ ?_ | refine Fw ?_) <;> first | with_reducible rfl | (simp; done)) | (with_reducible first | refine Ka _ ?_ | refine Ks _ (by first | exact Nat.le_refl _ | omega | (simp; done) | (simp; omega)) ?_ | refine Fd ?_ | refine Fn ?_ | refine Fb (by assumption) (by first | exact Nat.le_refl _ | omega | (simp; done) | (simp; omega)) ?_ | refine Fa _ (by first | exact Nat.le_refl _ | omega | (simp; done) | (simp; omega)) ?_ | refine Fs _ ?_))))
  have c1 : w1.cell? ⟨W.heap.size, 1, none⟩ = some (.slice dA r.d dc) := Kb hb1 (by (repeat' refine And.intro ?_ ?_) <;> (repeat (first | with_reducible assumption | (simp; done) | (with_reducible first | refine Kd ?_ | refine Kn ?_ | refine Kb (by assumption) ?_) | ((with_reducible first | refine Kw ?_ ?_ | refine Fw ?_) <;> first | with_reducible rfl | (simp; done)) | (with_reducible first | refine Ka _ ?_ | refine Ks _ (by first | exact Nat.le_refl _ | omega | (simp; done) | (simp; omega)) ?_ | refine Fd ?_ | refine Fn ?_ | refine Fb (by assumption) (by first | exact Nat.le_refl _ | omega | (simp; done) | (simp; omega)) ?_ | refine Fa _ (by first | exact Nat.le_refl _ | omega | (simp; done) | (simp; omega)) ?_ | refine Fs _ ?_))))
  have c2 : w1.cell? ⟨W.heap.size, 2, none⟩ = some (.slice vA r.m vc) := Kb hb1 (by (repeat' refine And.intro ?_ ?_) <;> (repeat (first | with_reducible assumption | (simp; done) | (with_reducible first | refine Kd ?_ | refine Kn ?_ | refine Kb (by assumption) ?_) | ((with_reducible first | refine Kw ?_ ?_ | refine Fw ?_) <;> first | with_reducible rfl | (simp; done)) | (with_reducible first | refine Ka _ ?_ | refine Ks _ (by first | exact Nat.le_refl _ | omega | (simp; done) | (simp; omega)) ?_ | refine Fd ?_ | refine Fn ?_ | refine Fb (by assumption) (by first | exact Nat.le_refl _ | omega | (simp; done) | (simp; omega)) ?_ | refine Fa _ (by first | exact Nat.le_refl _ | omega | (simp; done) | (simp; omega)) ?_ | refine Fs _ ?_))))
  have r0 : w1.cell? ⟨W.heap.size + 1, 0, none⟩ = some (.int .i64 0) := Kb hb1 (by (repeat' refine And.intro ?_ ?_) <;> (repeat (first | with_reducible assumption | (simp; done) | (with_reducible first | refine Kd ?_ | refine Kn ?_ | refine Kb (by assumption) ?_) | ((with_reducible first | refine Kw ?_ ?_ | refine Fw ?_) <;> first | with_reducible rfl | (simp; done)) | (with_reducible first | refine Ka _ ?_ | refine Ks _ (by first | exact Nat.le_refl _ | omega | (simp; done) | (simp; omega)) ?_ | refine Fd ?_ | refine Fn ?_ | refine Fb (by assumption) (by first | exact Nat.le_refl _ | omega | (simp; done) | (simp; omega)) ?_ | refine Fa _ (by first | exact Nat.le_refl _ | omega | (simp; done) | (simp; omega)) ?_ | refine Fs _ ?_))))
  have r1 : w1.cell? ⟨W.heap.size + 1, 1, none⟩ = some (.int .i64 0) := Kb hb1 (by (repeat' refine And.intro ?_ ?_) <;> (repeat (first | with_reducible assumption | (simp; done) | (with_reducible first | refine Kd ?_ | refine Kn ?_ | refine Kb (by assumption) ?_) | ((with_reducible first | refine Kw ?_ ?_ | refine Fw ?_) <;> first | with_reducible rfl | (simp; done)) | (with_reducible first | refine Ka _ ?_ | refine Ks _ (by first | exact Nat.le_refl _ | omega | (simp; done) | (simp; omega)) ?_ | refine Fd ?_ | refine Fn ?_ | refine Fb (by assumption) (by first | exact Nat.le_refl _ | omega | (simp; done) | (simp; omega)) ?_ | refine Fa _ (by first | exact Nat.le_refl _ | omega | (simp; done) | (simp; omega)) ?_ | refine Fs _ ?_))))
  have f0 : w1.frozen? ⟨W.heap.size + 1, 0, none⟩ = false := fro_below_cell hb1 (v := .int .i64 0) (by (repeat' refine And.intro ?_ ?_) <;> (repeat (first | with_reducible assumption | (simp; done) | (with_reducible first | refine Kd ?_ | refine Kn ?_ | refine Kb (by assumption) ?_) | ((with_reducible first | refine Kw ?_ ?_ | refine Fw ?_) <;> first | with_reducible rfl | (simp; done)) | (with_reducible first | refine Ka _ ?_ | refine Ks _ (by first | exact Nat.le_refl _ | omega | (simp; done) | (simp; omega)) ?_ | refine Fd ?_ | refine Fn ?_ | refine Fb (by assumption) (by first | exact Nat.le_refl _ | omega | (simp; done) | (simp; omega)) ?_ | refine Fa _ (by first | exact Nat.le_refl _ | omega | (simp; done) | (simp; omega)) ?_ | refine Fs _ ?_)))) (by (repeat' refine And.intro ?_ ?_) <;> (repeat (first | with_reducible assumption | (simp; done) | (with_reducible first | refine Kd ?_ | refine Kn ?_ | refine Kb (by assumption) ?_) | ((with_reducible first | refine Kw ?_ ?_ | refine Fw ?_) <;> first | with_reducible rfl | (simp; done)) | (with_reducible first | refine Ka _ ?_ | refine Ks _ (by first | exact Nat.le_refl _ | omega | (simp; done) | (simp; omega)) ?_ | refine Fd ?_ | refine Fn ?_ | refine Fb (by assumption) (by first | exact Nat.le_refl _ | omega | (simp; done) | (simp; omega)) ?_ | refine Fa _ (by first | exact Nat.le_refl _ | omega | (simp; done) | (simp; omega)) ?_ | refine Fs _ ?_))))
  have f1 : w1.frozen? ⟨W.heap.size + 1, 1, none⟩ = false := fro_below_cell hb1 (v := .int .i64 0) (by (repeat' refine And.intro ?_ ?_) <;> (repeat (first | with_reducible assumption | (simp; done) | (with_reducible first | refine Kd ?_ | refine Kn ?_ | refine Kb (by assumption) ?_) | ((with_reducible first | refine Kw ?_ ?_ | refine Fw ?_) <;> first | with_reducible rfl | (simp; done)) | (with_reducible first | refine Ka _ ?_ | refine Ks _ (by first | exact Nat.le_refl _ | omega | (simp; done) | (simp; omega)) ?_ | refine Fd ?_ | refine Fn ?_ | refine Fb (by assumption) (by first | exact Nat.le_refl _ | omega | (simp; done) | (simp; omega)) ?_ | refine Fa _ (by first | exact Nat.le_refl _ | omega | (simp; done) | (simp; omega)) ?_ | refine Fs _ ?_)))) (by (repeat' refine And.intro ?_ ?_) <;> (repeat (first | with_reducible assumption | (simp; done) | (with_reducible first | refine Kd ?_ | refine Kn ?_ | refine Kb (by assumption) ?_) | ((with_reducible first | refine Kw ?_ ?_ | refine Fw ?_) <;> first | with_reducible rfl | (simp; done)) | (with_reducible first | refine Ka _ ?_ | refine Ks _ (by first | exact Nat.le_refl _ | omega | (simp; done) | (simp; omega)) ?_ | refine Fd ?_ | refine Fn ?_ | refine Fb (by assumption) (by first | exact Nat.le_refl _ | omega | (simp; done) | (simp; omega)) ?_ | refine Fa _ (by first | exact Nat.le_refl _ | omega | (simp; done) | (simp; omega)) ?_ | refine Fs _ ?_))))
  have HI := Lib.hid (show I2 w1 (W.heap.size + 1) 0 0 from ⟨r0, r1, f0, f1⟩)
  clear hb1
  by_cases h0 : r.askErr f t = 0
  · have HS : Hid (r.sumS f t = r.span f.toNat t.toNat) := Lib.hid (by unfold Rw.sumS; rw [if_pos h0])
    obtain ⟨hok, hf0, hft, htn, hrd⟩ := Rw.ask_ok h0
    obtain ⟨a, rfl⟩ := Int.eq_ofNat_of_zero_le hf0
    obtain ⟨b, rfl⟩ := Int.eq_ofNat_of_zero_le (by omega : 0 ≤ t)
    have hn6 := hok.n6
    have hrn := List.length_eq_zero_iff.1 hrd
    have hF := Rw.fin_nil hok hrn
    have hx := Rw.walk_fin hok hrn (a := b + 1) (b := a) (by omega) (by omega) (by omega)
    have hy := Rw.walk_fin hok hrn (a := a) (b := b + 1) (by omega) (by omega) (by omega)
    have hxd := hF.d (b + 1) a (by omega) (by omega)
    have hyd := hF.d a (b + 1) (by omega) (by omega)
    obtain ⟨x, hxx⟩ : ∃ x, x = r.walkR (b + 1) a := ⟨_, rfl⟩
    obtain ⟨y, hyy⟩ : ∃ y, y = r.walkR a (b + 1) := ⟨_, rfl⟩
    have HOK := Lib.hid hok
    have HE0 := Lib.hid h0
    rw [h0]
    have HV : Hid (r.sumS (a : Int) (b : Int) = ⟨-x, y⟩) := Lib.hid (by rw [HS.out, hxx, hyy, hx, hy, Int.toNat_natCast, Int.toNat_natCast]; rfl)
    have e1 : IntKind.i64.wrap ((b : Int) + 1) = ((b + 1 : Nat) : Int) := by rw [IntWalk.i64_in _ (by omega)]; omega
    have e2 : IntKind.i64.wrap (-x) = -x := IntWalk.i64_in _ (by rw [hxx, hx]; omega)
    have HX := Lib.hid hxx
    have HY := Lib.hid hyy
    clear h0 HS hok hrd hrn hF hx hy hxd hyd hxx hyy r0 r1 f0 f1
    go_wp2_with fail
    refine (table_any r HOK.out bA dA vA bc dc vc _ (H0.out.onW HB1.out)).mono ?_
    rintro e w2 ⟨g, cap, R, C, rfl, ht, hb2⟩
    have HT2 := Lib.hid ht
    have HB2 := Lib.hid (HB1.out.trans (hb2.mono HB1.out.size))
    have HI2 := Lib.hid (HI.out.same (hb2.block _ HI.out.lt))
    clear ht hb2 c0 c1 c2 HI HB1
    go_wp2_with fail
    refine (show Calls Tryz.prog 100 #[.slice (some ⟨g, 0, none⟩) (r.n + 1) cap, .int .i64 ((b : Int) + 1), .int .i64 (a : Int)] w2 _ from by
      have h := walk_anyR r HOK.out (b + 1) a (by omega) (by omega) _ g cap R C w2 HT2.out
      rw [← HX.out] at h
      exact h).mono ?_
    rintro e w3 ⟨rfl, hb3⟩
    have HT3 := Lib.hid (HT2.out.later hb3)
    have HB3 := Lib.hid (HB2.out.trans (hb3.mono HB2.out.size))
    have HI3 := Lib.hid (HI2.out.same (hb3.block _ HI2.out.lt))
    clear hb3 HT2 HB2 HI2
    go_wp2_with fail
    refine (show Calls Tryz.prog 100 #[.slice (some ⟨g, 0, none⟩) (r.n + 1) cap, .int .i64 (a : Int), .int .i64 ((b : Int) + 1)] w3 _ from by
      have h := walk_anyR r HOK.out a (b + 1) (by omega) (by omega) _ g cap R C w3 HT3.out
      rw [← HY.out] at h
      exact h).mono ?_
    rintro e w4 ⟨rfl, hb4⟩
    have HB4 := Lib.hid (HB3.out.trans (hb4.mono HB3.out.size))
    obtain ⟨r0, r1, f0, f1⟩ := HI3.out.same (hb4.block _ HI3.out.lt)
    clear hb4 HT3 HB3 HI3
    go_wp2_with fail
    refine bodyPost_ret (v := .tuple #[.agg #[.int .i64 (-x), .int .i64 y], .int .i64 0]) (by simp [results, Tryz.results32, go_sem, r0, r1]) rfl ⟨by rw [HV.out, HE0.out], ?_⟩
    exact (HB4.out.setCell (by dsimp only; omega) _).setCell (by dsimp only; omega) _
  · have hne : (r.askErr f t != 0) = true := by simpa using h0
    have HS : Hid (r.sumS f t = ⟨0, 0⟩) := Lib.hid (by unfold Rw.sumS; rw [if_neg h0])
    clear h0
    go_wp2_with fail
    refine bodyPost_ret (v := .tuple #[.agg #[.int .i64 0, .int .i64 0], .int .i64 (r.askErr f t)]) (by simp [results, Tryz.results32, go_sem, r0, r1]) rfl ⟨by rw [HS.out], ?_⟩
    exact (HB1.out.setCell (by dsimp only; omega) _).setCell (by dsimp only; omega) _
end Go.Proofs.YtnnikeolgknfoaaGreat
