/- A map of numbers to yes or no; plain words: rows without some weighings. -/
import Derived.Test.YtnnikeolgknfoaaGreatBx
import Derived.Maps.OwnSet
set_option linter.unusedSimpArgs false
set_option linter.unusedVariables false
namespace Go.Proofs.YtnnikeolgknfoaaGreat
open Go.RowKit Go.Shelf

theorem kint : Maps.Keyed Tryz.prog 3  := Maps.int_keyed (q := .i64) (by kernel_rfl)
theorem key_int {x : Nat} (h : x ≤ 1000) : keyOf Tryz.prog 3 (.int .i64 (x : Int)) = some (.int .i64 (x : Int)) := Maps.keyOf_int_mk (q := .i64) (by kernel_rfl) (WalkArith.wf_i64 (by omega))
theorem bool_under : Tryz.prog.underlying 4 = some .bool := by kernel_rfl
theorem left_under : Tryz.prog.underlying 124 = some (.map 3 4) := by kernel_rfl
theorem zero_bool (w : World) : (zeroValue 4).run Tryz.prog w = .ok (.bool false) w := by kernel_rfl
theorem plainElem_bool_inv {H : Type} {v : Value} {z : DataW H × List MemPlace} (h : plainElem Tryz.prog 4 v = some z) : ∃ a, v = .bool a ∧ z = (.lit (.bool a), []) := by
  unfold plainElem at h
  rw [bool_under] at h
  split at h
  · cases h; exact ⟨_, rfl, rfl⟩
  · rename_i e1; injection e1 with e1; cases e1
  · rename_i e1; injection e1 with e1; cases e1
  · cases h
/-- block b is a map of at most n numbers, with yes or no as f says -/
def LeftAt (w : World) (b n : Nat) (f : Nat → Bool) : Prop :=
  ∃ D : DataW Unit, w.ownsMap Tryz.prog 3 (plainElem Tryz.prog 4) b n D ∧ Maps.IsMap D ∧ ∀ x : Nat, D.atKey (.int .i64 (x : Int)) (.lit (.bool false)) = .lit (.bool (f x))
theorem LeftAt.made (w : World) : LeftAt (w.alloc (.map #[] 0)) w.heap.size 0 (fun _ => false) := ⟨.map [], World.ownsMap_made _ _ _ _, Maps.isMap_empty, fun _ => rfl⟩
theorem LeftAt.lt {w : World} {b n : Nat} {f : Nat → Bool} (h : LeftAt w b n f) : b < w.heap.size := h.choose_spec.1.lt
theorem LeftAt.mono {w : World} {b n m : Nat} {f : Nat → Bool} (h : LeftAt w b n f) (hn : n ≤ m) : LeftAt w b m f := by
  obtain ⟨D, h1, h2, h3⟩ := h
  exact ⟨D, h1.mono hn, h2, h3⟩
theorem LeftAt.same {w w' : World} {b n : Nat} {f : Nat → Bool} (h : LeftAt w b n f) (hb : w'.heap[b]? = w.heap[b]?) : LeftAt w' b n f := by
  obtain ⟨D, ⟨es, clock, h0, r⟩, h2, h3⟩ := h
  exact ⟨D, ⟨es, clock, hb.trans h0, r⟩, h2, h3⟩
theorem LeftAt.later {w w' : World} {b n : Nat} {f : Nat → Bool} (h : LeftAt w b n f) (hb : Below w.heap.size w w') : LeftAt w' b n f := h.same (hb.block _ h.lt)
set_option maxRecDepth 100000 in
theorem LeftAt.look {w : World} {b n : Nat} {f : Nat → Bool} (h : LeftAt w b n f) {x : Nat} (hx : x ≤ 1000) : (Instr.lookup 124 (.map (some b)) (.int .i64 (x : Int)) false).run Tryz.prog w = .ok (.bool (f x)) w := by
  obtain ⟨D, h1, _, h3⟩ := h
  obtain ⟨v, ps, hr, hv⟩ := h1.lookup kint left_under (zero_bool w) (plainElem_bool bool_under false) (key_int hx)
  rw [h3 x] at hv
  obtain ⟨a, rfl, hz⟩ := plainElem_bool_inv hv
  simp only [Prod.mk.injEq, DataW.lit.injEq, Lit.bool.injEq] at hz
  rw [hr, hz.1]
set_option maxRecDepth 100000 in
theorem LeftAt.put {w : World} {b n : Nat} {f : Nat → Bool} (h : LeftAt w b n f) {x : Nat} (hx : x ≤ 1000) (v : Bool) (hn : n ≤ 1000000) :
    ∃ w', (Instr.mapUpdate 124 (.map (some b)) (.int .i64 (x : Int)) (.bool v)).run Tryz.prog w = .ok () w' ∧ LeftAt w' b (n + 1) (fun y => if y = x then v else f y) ∧ w.grownBy w' (some b) := by
  obtain ⟨D, h1, h2, h3⟩ := h
  have hk := key_int hx
  obtain ⟨w', hr, h4, h5⟩ := h1.update kint left_under (by unfold maxLen; omega) hk (plainElem_bool bool_under v)
  refine ⟨w', hr, ⟨_, h4, h2.put _ _, fun y => ?_⟩, h5⟩
  dsimp only
  by_cases e : y = x
  · subst e
    rw [Maps.atKey_put_same h2 (kint.key hk), if_pos rfl]
  · rw [Maps.atKey_put_other (fun e2 => e (by injection e2 with _ e2; omega)), if_neg e]
    exact h3 y

/-! ### rows without weighings -/
def wg0 : Wg := ⟨0, 0, 0, 0⟩
/-- one of the first k is the same -/
def twk (l : List Wg) (x : Wg) : Nat → Bool
  | 0 => false
  | k + 1 => twk l x k || decide (l.getD k wg0 = x)
def wthL (V : Nat → Wg) (out : Nat → Bool) : Nat → List Wg
  | 0 => []
  | k + 1 => if (!out k && !twk (wthL V out k) (V k) (wthL V out k).length) = true then wthL V out k ++ [V k] else wthL V out k
def Rw.wo (r : Rw) (out : Nat → Bool) : Rw := { r with m := (wthL r.V out r.m).length, V := fun k => (wthL r.V out r.m).getD k wg0 }
theorem wthL_len (V : Nat → Wg) (out : Nat → Bool) : ∀ k, (wthL V out k).length ≤ k
  | 0 => Nat.le_refl _
  | k + 1 => by
    have := wthL_len V out k
    unfold wthL
    split
    · simp; omega
    · omega
theorem wthL_mem (V : Nat → Wg) (out : Nat → Bool) : ∀ k x, x ∈ wthL V out k → ∃ j, j < k ∧ out j = false ∧ x = V j
  | 0, x, h => absurd h (by simp [wthL])
  | k + 1, x, h => by
    unfold wthL at h
    split at h
    · rename_i hc
      simp only [Bool.and_eq_true, Bool.not_eq_true'] at hc
      rcases List.mem_append.1 h with h | h
      · obtain ⟨j, hj, h1, h2⟩ := wthL_mem V out k x h
        exact ⟨j, by omega, h1, h2⟩
      · exact ⟨k, by omega, hc.1, by simpa using h⟩
    · obtain ⟨j, hj, h1, h2⟩ := wthL_mem V out k x h
      exact ⟨j, by omega, h1, h2⟩
theorem Rw.wo_V {r : Rw} {out : Nat → Bool} {k : Nat} (hk : k < (r.wo out).m) : ∃ j, j < r.m ∧ out j = false ∧ (r.wo out).V k = r.V j := by
  have hk' : k < (wthL r.V out r.m).length := hk
  obtain ⟨j, h1, h2, h3⟩ := wthL_mem r.V out r.m ((wthL r.V out r.m)[k]) (List.getElem_mem hk')
  refine ⟨j, h1, h2, ?_⟩
  show (wthL r.V out r.m).getD k wg0 = _
  rw [List.getD_eq_getElem?_getD, List.getElem?_eq_getElem hk', Option.getD_some, h3]
theorem Rw.wo_m (r : Rw) (out : Nat → Bool) : (r.wo out).m ≤ r.m := wthL_len _ _ _
theorem Rw.wo_ok {r : Rw} (hr : r.ok) (out : Nat → Bool) : (r.wo out).ok :=
  ⟨hr.n1, hr.n6, hr.d7, Nat.le_trans (r.wo_m out) hr.m10, hr.b, fun k hk => by
    obtain ⟨j, hj, _, e⟩ := Rw.wo_V hk
    rw [e]
    exact hr.v j hj, hr.k⟩
/-- a row clashes -/
def Rw.torn (r : Rw) : Bool := r.fitErr == 7
def wgL (l : List Wg) : List Value := l.flatMap wgC
theorem wgL_snoc (l : List Wg) (x : Wg) : wgL (l ++ [x]) = wgL l ++ wgC x := by simp [wgL]
theorem wgL_row : ∀ l : List Wg, wgL l = rowC wgC (fun k => l.getD k wg0) l.length := by
  intro l
  have : ∀ k, k ≤ l.length → wgL (l.take k) = rowC wgC (fun k => l.getD k wg0) k := by
    intro k
    induction k with
    | zero => intro _; simp [wgL, rowC]
    | succ k ih =>
      intro hk
      have e : l.take (k + 1) = l.take k ++ [l.getD k wg0] := by
        rw [List.take_add_one, List.getD_eq_getElem?_getD, List.getElem?_eq_getElem (by omega)]
        simp
      rw [e, wgL_snoc, ih (by omega)]
      rfl
  have h := this l.length (Nat.le_refl _)
  rwa [List.take_length] at h
end Go.Proofs.YtnnikeolgknfoaaGreat
