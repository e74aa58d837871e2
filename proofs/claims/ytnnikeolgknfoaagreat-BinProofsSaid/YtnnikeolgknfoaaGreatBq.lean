/- The least numbers of walks, place by place. No program here. -/
import Derived.Test.YtnnikeolgknfoaaGreatBp
set_option linter.unusedSimpArgs false
set_option linter.unusedVariables false
namespace Go.Proofs.YtnnikeolgknfoaaGreat

/-- the numbers and first facts of walks -/
structure Sk where
  L : Nat → Nat → Int
  F : Nat → Nat → Fc
def far : Int := 1073741824
def fc0 : Fc := ⟨false, 0, false⟩
def Sk.zero : Sk := ⟨fun a b => if a = b then 0 else far, fun _ _ => fc0⟩
def Sk.upd (S : Sk) (a b : Nat) (v : Int) (f : Fc) : Sk := ⟨fun x y => if x = a ∧ y = b then v else S.L x y, fun x y => if x = a ∧ y = b then f else S.F x y⟩
def Rw.a (r : Rw) (f : Fc) : Nat := (r.from_ f).toNat
def Rw.b (r : Rw) (f : Fc) : Nat := (r.to_ f).toNat
/-- a fact is laid -/
def Sk.put (r : Rw) (S : Sk) (f : Fc) : Sk := if r.num f < S.L (r.a f) (r.b f) then S.upd (r.a f) (r.b f) (r.num f) f else S
def Rw.sk0 (r : Rw) : Sk := r.facts.foldl (Sk.put r) Sk.zero
/-- a search at work: what is known, and where it stopped -/
abbrev Sc := Sk × Option (Nat × Nat)
def stp (k a : Nat) (x : Sc) (b : Nat) : Sc :=
  if x.2.isSome then x else
  if x.1.L a b ≤ x.1.L a k + x.1.L k b then x else
  if a = b then (x.1, some (a, k)) else (x.1.upd a b (x.1.L a k + x.1.L k b) (x.1.F a k), none)
def stpN (k a : Nat) (x : Sc) (n : Nat) : Sc := Nat.rec x (fun b y => stp k a y b) n
def rowN (P k : Nat) (x : Sc) (n : Nat) : Sc := Nat.rec x (fun a y => stpN k a y P) n
def phN (P : Nat) (x : Sc) (n : Nat) : Sc := Nat.rec x (fun k y => rowN P k y P) n
theorem stpN_succ (k a : Nat) (x : Sc) (n : Nat) : stpN k a x (n + 1) = stp k a (stpN k a x n) n := rfl
theorem rowN_succ (P k : Nat) (x : Sc) (n : Nat) : rowN P k x (n + 1) = stpN k n (rowN P k x n) P := rfl
theorem phN_succ (P : Nat) (x : Sc) (n : Nat) : phN P x (n + 1) = rowN P n (phN P x n) P := rfl
/-- all of the search -/
def Rw.search (r : Rw) : Sc := phN (r.n + 1) (r.sk0, none) (r.n + 1)
/-- a walk by first facts -/
def wlk (r : Rw) (F : Nat → Nat → Fc) (t : Nat) : Nat → Nat → List Fc
  | 0, _ => []
  | u + 1, x => if x = t then [] else F x t :: wlk r F t u (r.b (F x t))
/-- the walk that contradicts -/
def Rw.round (r : Rw) : List Fc := match r.search.2 with
  | none => []
  | some (a, k) => wlk r r.search.1.F k 7 a ++ wlk r r.search.1.F a 7 k

/-- a walk from a place to another one -/
def Chain (r : Rw) : Nat → Nat → List Fc → Prop
  | a, b, [] => a = b
  | a, b, f :: l => r.has f ∧ r.a f = a ∧ Chain r (r.b f) b l
def wsum (r : Rw) : List Fc → Int
  | [] => 0
  | f :: l => r.num f + wsum r l
theorem wsum_append (r : Rw) : ∀ l m, wsum r (l ++ m) = wsum r l + wsum r m
  | [], m => by simp [wsum]
  | f :: l, m => by simp only [List.cons_append, wsum]; rw [wsum_append r l m]; omega
theorem Chain.append {r : Rw} : ∀ {l m : List Fc} {a b c : Nat}, Chain r a b l → Chain r b c m → Chain r a c (l ++ m)
  | [], m, a, b, c, h, k => by
    have : a = b := h
    subst this
    exact k
  | f :: l, m, a, b, c, h, k => ⟨h.1, h.2.1, Chain.append h.2.2 k⟩
theorem Rw.ab_bd {r : Rw} (hr : r.ok) {f : Fc} (hf : r.has f) : r.a f ≤ r.n ∧ r.b f ≤ r.n ∧ r.a f ≠ r.b f ∧ -3100 ≤ r.num f ∧ r.num f ≤ 3100 ∧ ((r.a f : Nat) : Int) = r.from_ f ∧ ((r.b f : Nat) : Int) = r.to_ f := by
  have h := Rw.lead_bd hr hf
  unfold Rw.a Rw.b
  omega

/-! ### what holds at the beginning of a phase -/
def Md : Nat → Int
  | 0 => 3100
  | k + 1 => 2 * Md k
theorem Md_le : ∀ k, k ≤ 7 → 3100 ≤ Md k ∧ Md k ≤ 396800
  | 0, _ => by decide
  | 1, _ => by decide
  | 2, _ => by decide
  | 3, _ => by decide
  | 4, _ => by decide
  | 5, _ => by decide
  | 6, _ => by decide
  | 7, _ => by decide
  | n + 8, h => by omega
structure Inv (r : Rw) (k : Nat) (S : Sk) (N : Nat → Nat → Nat) : Prop where
  z : ∀ a, a ≤ r.n → S.L a a = 0
  e : ∀ f, r.has f → S.L (r.a f) (r.b f) ≤ r.num f
  t : ∀ a b c, a ≤ r.n → b ≤ r.n → c ≤ r.n → c < k → S.L a b ≤ S.L a c + S.L c b
  d : ∀ a b, a ≤ r.n → b ≤ r.n → (-(Md k) ≤ S.L a b ∧ S.L a b ≤ Md k) ∨ (far - Md k ≤ S.L a b ∧ S.L a b ≤ far)
  v : ∀ a b, a ≤ r.n → b ≤ r.n → a ≠ b → S.L a b ≤ Md k → r.has (S.F a b) ∧ r.a (S.F a b) = a ∧ (r.b (S.F a b) = b ∨ r.b (S.F a b) < k) ∧ S.L a b = r.num (S.F a b) + S.L (r.b (S.F a b)) b ∧ N a b = 1 + N (r.b (S.F a b)) b
  n0 : ∀ a, a ≤ r.n → N a a = 0

/-- facts that were laid -/
structure Laid (r : Rw) (done : List Fc) (S : Sk) : Prop where
  z : ∀ a, S.L a a = 0
  e : ∀ f, f ∈ done → S.L (r.a f) (r.b f) ≤ r.num f
  v : ∀ a b, a ≠ b → (S.L a b = far) ∨ (r.has (S.F a b) ∧ r.a (S.F a b) = a ∧ r.b (S.F a b) = b ∧ S.L a b = r.num (S.F a b))
theorem Laid.put {r : Rw} (hr : r.ok) {done : List Fc} {S : Sk} (h : Laid r done S) {f : Fc} (hf : r.has f) : Laid r (done ++ [f]) (S.put r f) := by
  obtain ⟨h1, h2, h3, h4, h5, -, -⟩ := Rw.ab_bd hr hf
  unfold Sk.put
  by_cases hlt : r.num f < S.L (r.a f) (r.b f)
  · rw [if_pos hlt]
    refine ⟨fun a => ?_, fun g hg => ?_, fun a b hab => ?_⟩
    · show (if a = r.a f ∧ a = r.b f then _ else _) = _
      rw [if_neg (by omega)]
      exact h.z a
    · show (if r.a g = r.a f ∧ r.b g = r.b f then r.num f else S.L (r.a g) (r.b g)) ≤ _
      rcases List.mem_append.1 hg with hg | hg
      · have := h.e g hg
        split
        · rename_i e
          rw [e.1, e.2] at this
          omega
        · exact this
      · rw [List.mem_singleton.1 hg, if_pos ⟨rfl, rfl⟩]
        exact Int.le_refl _
    · show ((if a = r.a f ∧ b = r.b f then r.num f else S.L a b) = far) ∨ (r.has (if a = r.a f ∧ b = r.b f then f else S.F a b) ∧ r.a (if a = r.a f ∧ b = r.b f then f else S.F a b) = a ∧ r.b (if a = r.a f ∧ b = r.b f then f else S.F a b) = b ∧ (if a = r.a f ∧ b = r.b f then r.num f else S.L a b) = r.num (if a = r.a f ∧ b = r.b f then f else S.F a b))
      by_cases e : a = r.a f ∧ b = r.b f
      · rw [if_pos e, if_pos e]
        exact .inr ⟨hf, e.1.symm, e.2.symm, rfl⟩
      · rw [if_neg e, if_neg e]
        exact h.v a b hab
  · rw [if_neg hlt]
    refine ⟨h.z, fun g hg => ?_, h.v⟩
    rcases List.mem_append.1 hg with hg | hg
    · exact h.e g hg
    · rw [List.mem_singleton.1 hg]
      omega
theorem Laid.all {r : Rw} (hr : r.ok) : ∀ (l done : List Fc) (S : Sk), Laid r done S → (∀ f, f ∈ l → r.has f) → Laid r (done ++ l) (l.foldl (Sk.put r) S)
  | [], done, S, h, _ => by rw [List.append_nil]; exact h
  | f :: l, done, S, h, hl => by
    rw [List.foldl_cons]
    have := Laid.all hr l (done ++ [f]) (S.put r f) (h.put hr (hl f (by simp))) (fun g hg => hl g (by simp [hg]))
    rw [List.append_assoc] at this
    exact this
theorem Laid.zero (r : Rw) : Laid r [] Sk.zero := ⟨fun a => if_pos rfl, fun f hf => absurd hf (by simp), fun a b hab => .inl (if_neg hab)⟩
theorem Rw.sk0_laid {r : Rw} (hr : r.ok) : Laid r r.facts r.sk0 := by
  have := Laid.all hr r.facts [] Sk.zero (Laid.zero r) (fun f hf => mem_facts.1 hf)
  rw [List.nil_append] at this
  exact this
theorem Inv.start {r : Rw} (hr : r.ok) : Inv r 0 r.sk0 (fun a b => if a = b then 0 else 1) := by
  have h := Rw.sk0_laid hr
  refine ⟨fun a _ => h.z a, fun f hf => h.e f (mem_facts.2 hf), fun a b c _ _ _ hc => by omega, fun a b ha hb => ?_, fun a b ha hb hab hl => ?_, fun a _ => if_pos rfl⟩
  · by_cases e : a = b
    · subst e
      rw [h.z]
      exact .inl (by decide)
    · rcases h.v a b e with h1 | ⟨h1, h2, h3, h4⟩
      · rw [h1]
        exact .inr (by decide)
      · have h5 := Rw.ab_bd hr h1
        rw [h4]
        exact .inl ⟨by show -3100 ≤ _; omega, by show _ ≤ 3100; omega⟩
  · rcases h.v a b hab with h1 | ⟨h1, h2, h3, h4⟩
    · rw [h1] at hl
      exact absurd hl (by decide)
    · refine ⟨h1, h2, .inl h3, ?_, ?_⟩
      · rw [h3, h.z, h4]
        omega
      · rw [h3, if_neg hab, if_pos rfl]

/-! ### a phase -/
def Sk.mid (S : Sk) (k : Nat) (p : Nat → Nat → Bool) : Sk :=
  ⟨fun x y => if p x y = true ∧ S.L x k + S.L k y < S.L x y then S.L x k + S.L k y else S.L x y, fun x y => if p x y = true ∧ S.L x k + S.L k y < S.L x y then S.F x k else S.F x y⟩
theorem Sk.mid_col {S : Sk} {k : Nat} {p : Nat → Nat → Bool} (h : S.L k k = 0) (x : Nat) : (S.mid k p).L x k = S.L x k ∧ (S.mid k p).F x k = S.F x k ∧ (S.mid k p).L k x = S.L k x := by
  refine ⟨?_, ?_, ?_⟩
  · show (if _ ∧ S.L x k + S.L k k < S.L x k then _ else _) = _
    rw [if_neg (by rw [h]; omega)]
  · show (if _ ∧ S.L x k + S.L k k < S.L x k then _ else _) = _
    rw [if_neg (by rw [h]; omega)]
  · show (if _ ∧ S.L k k + S.L k x < S.L k x then _ else _) = _
    rw [if_neg (by rw [h]; omega)]
theorem Sk.ext {S T : Sk} (h1 : ∀ x y, S.L x y = T.L x y) (h2 : ∀ x y, S.F x y = T.F x y) : S = T := by
  obtain ⟨L, F⟩ := S
  obtain ⟨L', F'⟩ := T
  have e1 : L = L' := funext fun x => funext fun y => h1 x y
  have e2 : F = F' := funext fun x => funext fun y => h2 x y
  rw [e1, e2]
/-- what was looked at in a phase: rows before one, and so much of that -/
def seen (P a b : Nat) (x y : Nat) : Bool := (decide (x < a) && decide (y < P)) || (decide (x = a) && decide (y < b))
/-- a step of a phase: it goes on, or it stops -/
theorem stp_mid {S : Sk} {P k a b : Nat} (hk : S.L k k = 0) (hz : S.L a a = 0) : stp k a (S.mid k (seen P a b), none) b = if a = b ∧ S.L a k + S.L k a < 0 then (S.mid k (seen P a b), some (a, k)) else (S.mid k (seen P a (b + 1)), none) := by
  have c1 := (Sk.mid_col (S := S) (p := seen P a b) hk a).1
  have c2 := (Sk.mid_col (S := S) (p := seen P a b) hk b).2.2
  have c3 := (Sk.mid_col (S := S) (p := seen P a b) hk a).2.1
  have c4 : (S.mid k (seen P a b)).L a b = S.L a b := by
    show (if seen P a b a b = true ∧ _ then _ else _) = _
    rw [if_neg (by simp [seen])]
  unfold stp
  rw [if_neg (by simp)]
  dsimp only
  rw [c1, c2, c3, c4]
  have hs : ∀ x y, ¬ (x = a ∧ y = b) → seen P a (b + 1) x y = seen P a b x y := fun x y h => by
    unfold seen
    by_cases e : x = a
    · subst e
      have : ¬ y = b := fun e2 => h ⟨rfl, e2⟩
      congr 1
      simp
      omega
    · simp [e]
  have hn : seen P a (b + 1) a b = true := by simp [seen]
  by_cases hle : S.L a b ≤ S.L a k + S.L k b
  · rw [if_pos hle, if_neg (by rintro ⟨rfl, h⟩; omega)]
    congr 1
    refine Sk.ext (fun x y => ?_) (fun x y => ?_)
    · show (if seen P a b x y = true ∧ _ then _ else _) = (if seen P a (b + 1) x y = true ∧ _ then _ else _)
      by_cases e : x = a ∧ y = b
      · obtain ⟨rfl, rfl⟩ := e
        rw [if_neg (by omega), if_neg (by omega)]
      · rw [hs x y e]
    · show (if seen P a b x y = true ∧ _ then _ else _) = (if seen P a (b + 1) x y = true ∧ _ then _ else _)
      by_cases e : x = a ∧ y = b
      · obtain ⟨rfl, rfl⟩ := e
        rw [if_neg (by omega), if_neg (by omega)]
      · rw [hs x y e]
  · rw [if_neg hle]
    by_cases e : a = b
    · subst e
      rw [if_pos rfl, if_pos ⟨rfl, by omega⟩]
    · rw [if_neg e, if_neg (fun h => e h.1)]
      congr 1
      refine Sk.ext (fun x y => ?_) (fun x y => ?_)
      · show (if x = a ∧ y = b then S.L a k + S.L k b else (S.mid k (seen P a b)).L x y) = (if seen P a (b + 1) x y = true ∧ _ then _ else _)
        by_cases e : x = a ∧ y = b
        · obtain ⟨rfl, rfl⟩ := e
          rw [if_pos ⟨rfl, rfl⟩, if_pos ⟨hn, by omega⟩]
        · rw [if_neg e, hs x y e]
          rfl
      · show (if x = a ∧ y = b then S.F a k else (S.mid k (seen P a b)).F x y) = (if seen P a (b + 1) x y = true ∧ _ then _ else _)
        by_cases e : x = a ∧ y = b
        · obtain ⟨rfl, rfl⟩ := e
          rw [if_pos ⟨rfl, rfl⟩, if_pos ⟨hn, by omega⟩]
        · rw [if_neg e, hs x y e]
          rfl

theorem stp_done (k a : Nat) (x : Sc) (b : Nat) (h : x.2.isSome = true) : stp k a x b = x := by unfold stp; rw [if_pos h]
theorem stpN_done (k a : Nat) (x : Sc) (h : x.2.isSome = true) : ∀ n, stpN k a x n = x
  | 0 => rfl
  | n + 1 => by rw [stpN_succ, stpN_done k a x h n, stp_done k a x n h]
theorem rowN_done (P k : Nat) (x : Sc) (h : x.2.isSome = true) : ∀ n, rowN P k x n = x
  | 0 => rfl
  | n + 1 => by rw [rowN_succ, rowN_done P k x h n, stpN_done k n x h P]
theorem phN_done (P : Nat) (x : Sc) (h : x.2.isSome = true) (n : Nat) : ∀ m, phN P (phN P x n) m = phN P (phN P x n) m := fun _ => rfl
/-- a row, as far as one likes -/
theorem stpN_mid {S : Sk} {P k a : Nat} (hk : S.L k k = 0) (hz : S.L a a = 0) : ∀ b, stpN k a (S.mid k (seen P a 0), none) b = if a < b ∧ S.L a k + S.L k a < 0 then (S.mid k (seen P a a), some (a, k)) else (S.mid k (seen P a b), none)
  | 0 => by
    rw [if_neg (by omega)]
    rfl
  | b + 1 => by
    rw [stpN_succ, stpN_mid hk hz b]
    by_cases h : a < b ∧ S.L a k + S.L k a < 0
    · rw [if_pos h, if_pos ⟨by omega, h.2⟩]
      exact stp_done _ _ _ _ rfl
    · rw [if_neg h, stp_mid hk hz]
      by_cases e : a = b ∧ S.L a k + S.L k a < 0
      · obtain ⟨rfl, e2⟩ := e
        rw [if_pos ⟨rfl, e2⟩, if_pos ⟨by omega, e2⟩]
      · rw [if_neg e, if_neg (by omega)]
theorem seen_row (P a : Nat) : seen P a P = seen P (a + 1) 0 := by
  funext x y
  unfold seen
  by_cases h1 : x < a
  · simp [h1, show x < a + 1 by omega, show ¬ x = a by omega]
  · by_cases h2 : x = a
    · subst h2
      simp
    · simp [h1, h2, show ¬ x < a + 1 by omega]
/-- rows of a phase: they go through, or stop -/
theorem rowN_mid {S : Sk} {P k : Nat} (hz : ∀ a, a < P → S.L a a = 0) (hk : k < P) : ∀ a, a ≤ P →
    ((∀ x, x < a → 0 ≤ S.L x k + S.L k x) ∧ rowN P k (S, none) a = (S.mid k (seen P a 0), none)) ∨
    ∃ x, x < a ∧ (∀ y, y < x → 0 ≤ S.L y k + S.L k y) ∧ S.L x k + S.L k x < 0 ∧ rowN P k (S, none) a = (S.mid k (seen P x x), some (x, k))
  | 0, _ => .inl ⟨fun x hx => by omega, by
    show (S, none) = _
    congr 1
    refine Sk.ext (fun x y => ?_) (fun x y => ?_)
    · show _ = (if seen P 0 0 x y = true ∧ _ then _ else _)
      rw [if_neg (by simp [seen])]
    · show _ = (if seen P 0 0 x y = true ∧ _ then _ else _)
      rw [if_neg (by simp [seen])]⟩
  | a + 1, ha => by
    rw [rowN_succ]
    rcases rowN_mid hz hk a (by omega) with ⟨h1, h2⟩ | ⟨x, h1, h2, h3, h4⟩
    · rw [h2, stpN_mid (hz k hk) (hz a (by omega)) P]
      by_cases h : S.L a k + S.L k a < 0
      · rw [if_pos ⟨by omega, h⟩]
        exact .inr ⟨a, by omega, h1, h, rfl⟩
      · rw [if_neg (fun h2 => h h2.2), seen_row]
        refine .inl ⟨fun x hx => ?_, rfl⟩
        by_cases e : x = a
        · subst e; omega
        · exact h1 x (by omega)
    · rw [h4, stpN_done _ _ _ rfl]
      exact .inr ⟨x, by omega, h2, h3, rfl⟩
/-- lengths behind a phase -/
def Nmid (S : Sk) (k : Nat) (N : Nat → Nat → Nat) (a b : Nat) : Nat := if S.L a k + S.L k b < S.L a b then N a k + N k b else N a b
theorem Inv.step {r : Rw} (hr : r.ok) {k : Nat} (hk : k ≤ r.n) {S : Sk} {N : Nat → Nat → Nat} (h : Inv r k S N) (hnd : ∀ x, x ≤ r.n → 0 ≤ S.L x k + S.L k x) : Inv r (k + 1) (S.mid k (seen (r.n + 1) (r.n + 1) 0)) (Nmid S k N) := by
  have hM := Md_le k (by have := hr.n6; omega)
  have hM1 : Md (k + 1) = 2 * Md k := rfl
  have hkk := h.z k hk
  have hfar : far = 1073741824 := rfl
  have hL : ∀ x y, x ≤ r.n → y ≤ r.n → (S.mid k (seen (r.n + 1) (r.n + 1) 0)).L x y = if S.L x k + S.L k y < S.L x y then S.L x k + S.L k y else S.L x y := fun x y hx hy => by
    show (if seen (r.n + 1) (r.n + 1) 0 x y = true ∧ _ then _ else _) = _
    have : seen (r.n + 1) (r.n + 1) 0 x y = true := by simp [seen]; omega
    rw [this]
    simp
  have hF : ∀ x y, x ≤ r.n → y ≤ r.n → (S.mid k (seen (r.n + 1) (r.n + 1) 0)).F x y = if S.L x k + S.L k y < S.L x y then S.F x k else S.F x y := fun x y hx hy => by
    show (if seen (r.n + 1) (r.n + 1) 0 x y = true ∧ _ then _ else _) = _
    have : seen (r.n + 1) (r.n + 1) 0 x y = true := by simp [seen]; omega
    rw [this]
    simp
  have tri : ∀ a b, a ≤ r.n → b ≤ r.n → ∀ f, r.has f → r.a f = a → r.b f < k → S.L a b ≤ r.num f + S.L (r.b f) b := fun a b ha hb f hf hfa hfk => by
    obtain ⟨_, h2, _⟩ := Rw.ab_bd hr hf
    have h1 := h.t a b (r.b f) ha hb h2 hfk
    have h3 := h.e f hf
    rw [hfa] at h3
    omega
  refine ⟨fun a ha => ?_, fun f hf => ?_, fun a b c ha hb hc hck => ?_, fun a b ha hb => ?_, fun a b ha hb hab hl => ?_, fun a => ?_⟩
  · rw [hL a a ha ha, h.z a ha, if_neg (by have := hnd a ha; omega)]
  · obtain ⟨h1, h2, -⟩ := Rw.ab_bd hr hf
    rw [hL _ _ h1 h2]
    have := h.e f hf
    split <;> omega
  · rw [hL a b ha hb, hL a c ha hc, hL c b hc hb]
    by_cases e : c = k
    · subst e
      rw [hkk]
      split <;> split <;> split <;> omega
    · have hc' : c < k := by omega
      have t1 := h.t a b c ha hb hc hc'
      have t2 := h.t a k c ha hk hc hc'
      have t3 := h.t k b c hk hb hc hc'
      have t4 := h.t k k c hk hk hc hc'
      split <;> split <;> split <;> omega
  · rw [hL a b ha hb]
    have d1 := h.d a b ha hb
    have d2 := h.d a k ha hk
    have d3 := h.d k b hk hb
    split <;> omega
  · have d1 := h.d a b ha hb
    have d2 := h.d a k ha hk
    have d3 := h.d k b hk hb
    rw [hL a b ha hb] at hl ⊢
    rw [hF a b ha hb]
    unfold Nmid
    by_cases hu : S.L a k + S.L k b < S.L a b
    · rw [if_pos hu] at hl
      rw [if_pos hu, if_pos hu]
      have hak : a ≠ k := fun e => by subst e; rw [hkk] at hu; omega
      have hkb : k ≠ b := fun e => by subst e; rw [hkk] at hu; omega
      obtain ⟨v1, v2, v3, v4, v5⟩ := h.v a k ha hk hak (by omega)
      obtain ⟨_, w2, _⟩ := Rw.ab_bd hr v1
      have he := h.e _ v1
      rw [v2] at he
      refine ⟨v1, v2, by omega, ?_, ?_⟩
      · rw [hL _ b w2 hb]
        rcases v3 with e | e
        · rw [e] at v4 ⊢
          rw [hkk] at v4 ⊢
          rw [if_neg (by omega)]
          omega
        · have t1 := tri a b ha hb _ v1 v2 e
          by_cases e2 : r.b (S.F a k) = b
          · exfalso
            rw [e2] at v4 he
            have := hnd b hb
            omega
          · rw [if_pos (by omega)]
            omega
      · rw [if_pos hu]
        rcases v3 with e | e
        · rw [e, if_neg (by rw [hkk]; omega)]
          have n1 := h.n0 k hk
          rw [e] at v5
          omega
        · have t1 := tri a b ha hb _ v1 v2 e
          have e2 : ¬ r.b (S.F a k) = b := fun e2 => by
            rw [e2] at v4 he
            have := hnd b hb
            omega
          rw [if_pos (by omega)]
          omega
    · rw [if_neg hu] at hl
      rw [if_neg hu, if_neg hu]
      obtain ⟨v1, v2, v3, v4, v5⟩ := h.v a b ha hb hab (by omega)
      obtain ⟨_, w2, _⟩ := Rw.ab_bd hr v1
      have hnu : ¬ S.L (r.b (S.F a b)) k + S.L k b < S.L (r.b (S.F a b)) b := fun hlt => by
        rcases v3 with e | e
        · rw [e, h.z b hb] at hlt
          have := hnd b hb
          omega
        · have t1 := tri a k ha hk _ v1 v2 e
          omega
      refine ⟨v1, v2, by omega, ?_, ?_⟩
      · rw [hL _ b w2 hb, if_neg hnu]
        exact v4
      · rw [if_neg hu, if_neg hnu]
        exact v5
  · intro ha
    unfold Nmid
    rw [h.z a ha, if_neg (by have := hnd a ha; omega)]
    exact h.n0 a ha

/-! ### walks by first facts -/
theorem Inv.path {r : Rw} (hr : r.ok) {k : Nat} (hk : k ≤ r.n + 1) {S : Sk} {N : Nat → Nat → Nat} (h : Inv r k S N) {b : Nat} (hb : b ≤ r.n) : ∀ (m u a : Nat), N a b = m → m ≤ u → a ≤ r.n → S.L a b ≤ Md k → Chain r a b (wlk r S.F b u a) ∧ wsum r (wlk r S.F b u a) = S.L a b ∧ (wlk r S.F b u a).length = m := by
  have hM := Md_le k (by have := hr.n6; omega)
  have hfar : far = 1073741824 := rfl
  intro m
  induction m with
  | zero =>
    intro u a hN hu ha hl
    by_cases e : a = b
    · subst e
      have : wlk r S.F a u a = [] := by
        cases u with
        | zero => rfl
        | succ u => exact if_pos rfl
      rw [this, h.z a ha]
      exact ⟨rfl, rfl, rfl⟩
    · have := (h.v a b ha hb e hl).2.2.2.2
      omega
  | succ m ih =>
    intro u a hN hu ha hl
    have e : a ≠ b := fun e => by
      subst e
      have := h.n0 a ha
      omega
    obtain ⟨v1, v2, v3, v4, v5⟩ := h.v a b ha hb e hl
    obtain ⟨w1, w2, w3, w4, w5, -, -⟩ := Rw.ab_bd hr v1
    obtain ⟨u, rfl⟩ : ∃ q, u = q + 1 := ⟨u - 1, by omega⟩
    have hd := h.d (r.b (S.F a b)) b w2 hb
    have hd2 := h.d a b ha hb
    obtain ⟨i1, i2, i3⟩ := ih u (r.b (S.F a b)) (by omega) (by omega) w2 (by omega)
    have hw : wlk r S.F b (u + 1) a = S.F a b :: wlk r S.F b u (r.b (S.F a b)) := if_neg e
    rw [hw]
    refine ⟨⟨v1, v2, i1⟩, ?_, ?_⟩
    · show r.num (S.F a b) + wsum r (wlk r S.F b u (r.b (S.F a b))) = _
      rw [i2]
      omega
    · rw [List.length_cons, i3]
/-- numbers that step down by one through distinct places -/
theorem pigeon : ∀ (n m : Nat) (φ : Nat → Nat), (∀ j, j ≤ m → ∃ v, v ≤ n ∧ φ v = j) → m ≤ n
  | 0, m, φ, h => by
    obtain ⟨v, hv, h0⟩ := h 0 (Nat.zero_le _)
    obtain ⟨w, hw, h1⟩ := h m (Nat.le_refl _)
    have : v = 0 := by omega
    have : w = 0 := by omega
    subst v w
    omega
  | n + 1, m, φ, h => by
    by_cases hj : m < φ (n + 1)
    · have := pigeon n m φ (fun j hj' => by
        obtain ⟨v, hv, e⟩ := h j hj'
        refine ⟨v, ?_, e⟩
        by_cases e2 : v = n + 1
        · subst e2; omega
        · omega)
      omega
    · cases m with
      | zero => omega
      | succ m =>
        have := pigeon n m (fun v => if φ (n + 1) < φ v then φ v - 1 else φ v) (fun j hj' => by
          by_cases e : j < φ (n + 1)
          · obtain ⟨v, hv, e1⟩ := h j (by omega)
            refine ⟨v, ?_, ?_⟩
            · by_cases e2 : v = n + 1
              · subst e2; omega
              · omega
            · show (if φ (n + 1) < φ v then φ v - 1 else φ v) = j
              rw [if_neg (by omega), e1]
          · obtain ⟨v, hv, e1⟩ := h (j + 1) (by omega)
            refine ⟨v, ?_, ?_⟩
            · by_cases e2 : v = n + 1
              · subst e2; omega
              · omega
            · show (if φ (n + 1) < φ v then φ v - 1 else φ v) = j
              rw [if_pos (by omega), e1]
              omega)
        omega
theorem Inv.down {r : Rw} (hr : r.ok) {k : Nat} (hk : k ≤ r.n + 1) {S : Sk} {N : Nat → Nat → Nat} (h : Inv r k S N) {b : Nat} (hb : b ≤ r.n) : ∀ (m a : Nat), N a b = m → a ≤ r.n → S.L a b ≤ Md k → ∀ j, j ≤ m → ∃ v, v ≤ r.n ∧ N v b = j := by
  have hM := Md_le k (by have := hr.n6; omega)
  have hfar : far = 1073741824 := rfl
  intro m
  induction m with
  | zero =>
    intro a hN ha hl j hj
    exact ⟨a, ha, by omega⟩
  | succ m ih =>
    intro a hN ha hl j hj
    by_cases ej : j = m + 1
    · exact ⟨a, ha, by omega⟩
    · have e : a ≠ b := fun e => by
        subst e
        have := h.n0 a ha
        omega
      obtain ⟨v1, v2, v3, v4, v5⟩ := h.v a b ha hb e hl
      obtain ⟨w1, w2, w3, w4, w5, -, -⟩ := Rw.ab_bd hr v1
      have hd := h.d (r.b (S.F a b)) b w2 hb
      have hd2 := h.d a b ha hb
      exact ih (r.b (S.F a b)) (by omega) w2 (by omega) j (by omega)
theorem Inv.len {r : Rw} (hr : r.ok) {k : Nat} (hk : k ≤ r.n + 1) {S : Sk} {N : Nat → Nat → Nat} (h : Inv r k S N) {a b : Nat} (ha : a ≤ r.n) (hb : b ≤ r.n) (hl : S.L a b ≤ Md k) : N a b ≤ r.n :=
  pigeon r.n (N a b) (fun v => N v b) (h.down hr hk hb (N a b) a rfl ha hl)
theorem wlk_congr {r : Rw} {F G : Nat → Nat → Fc} {t : Nat} (h : ∀ y, F y t = G y t) : ∀ u x, wlk r F t u x = wlk r G t u x
  | 0, _ => rfl
  | u + 1, x => by
    show (if x = t then [] else F x t :: wlk r F t u (r.b (F x t))) = (if x = t then [] else G x t :: wlk r G t u (r.b (G x t)))
    rw [h x, wlk_congr h u]
/-- the walk back, in a phase that stops: it is as it was before -/
theorem Inv.back {r : Rw} (hr : r.ok) {k : Nat} (hk : k ≤ r.n) {S : Sk} {N : Nat → Nat → Nat} (h : Inv r k S N) {a : Nat} (ha : a ≤ r.n) (hnd : ∀ y, y < a → 0 ≤ S.L y k + S.L k y) :
    ∀ (m u x : Nat), N x a = m → x ≤ r.n → (x = k ∨ x < k ∨ x = a) → S.L x a ≤ Md k → S.L k x + S.L x a ≤ S.L k a → wlk r (S.mid k (seen (r.n + 1) a a)).F a u x = wlk r S.F a u x := by
  have hM := Md_le k (by have := hr.n6; omega)
  have hfar : far = 1073741824 := rfl
  have hkk := h.z k hk
  intro m
  induction m with
  | zero =>
    intro u x hN hx hxk hl htt
    by_cases e : x = a
    · subst e
      cases u with
      | zero => rfl
      | succ u => rw [show wlk r S.F x (u + 1) x = [] from if_pos rfl]; exact if_pos rfl
    · have := (h.v x a hx ha e hl).2.2.2.2
      omega
  | succ m ih =>
    intro u x hN hx hxk hl htt
    have e : x ≠ a := fun e => by
      subst e
      have := h.n0 x hx
      omega
    cases u with
    | zero => rfl
    | succ u =>
    obtain ⟨v1, v2, v3, v4, v5⟩ := h.v x a hx ha e hl
    obtain ⟨w1, w2, w3, w4, w5, -, -⟩ := Rw.ab_bd hr v1
    have hd := h.d (r.b (S.F x a)) a w2 ha
    have hd2 := h.d x a hx ha
    have hF : (S.mid k (seen (r.n + 1) a a)).F x a = S.F x a := by
      show (if seen (r.n + 1) a a x a = true ∧ S.L x k + S.L k a < S.L x a then _ else _) = _
      rw [if_neg]
      rintro ⟨h1, h2⟩
      have hxa : x < a := by
        simp [seen] at h1
        omega
      have := hnd x hxa
      omega
    show (if x = a then [] else (S.mid k (seen (r.n + 1) a a)).F x a :: wlk r (S.mid k (seen (r.n + 1) a a)).F a u (r.b ((S.mid k (seen (r.n + 1) a a)).F x a))) = (if x = a then [] else S.F x a :: wlk r S.F a u (r.b (S.F x a)))
    rw [if_neg e, if_neg e, hF]
    congr 1
    refine ih u (r.b (S.F x a)) (by omega) w2 (by omega) (by omega) ?_
    have he := h.e _ v1
    rw [v2] at he
    rcases hxk with rfl | hlt | rfl
    · omega
    · have := h.t k (r.b (S.F x a)) x hk w2 hx hlt
      omega
    · omega
end Go.Proofs.YtnnikeolgknfoaaGreat
