/- clear of a row of one's own. -/
import Derived.Laws.AppendOwn
import Derived.Laws.IdiomCopy
import Derived.Below
set_option linter.unusedSimpArgs false
set_option linter.unusedVariables false
namespace Go.Proofs.Ytegmomappbehcaa
open Go.RowKit Go.Builtin

theorem below_cells {B b : Nat} {a : World} (hb : B ≤ b) : ∀ (vs : List Value) (o : Nat) (w : World), Below B a w → Below B a (w.setCells b o vs)
  | [], _, _, h => h
  | v :: r, o, w, h => below_cells hb r (o + 1) _ (h.setCell (p := ⟨b, o, none⟩) hb v)

theorem heap_cells (b : Nat) : ∀ (vs : List Value) (o : Nat) (w : World) (i : Nat), i ≠ b → (w.setCells b o vs).heap[i]? = w.heap[i]?
  | [], _, _, _, _ => rfl
  | v :: r, o, w, i, h => by
    refine (heap_cells b r (o + 1) _ i h).trans ?_
    unfold World.setCell
    rw [Array.getElem?_modify, if_neg (fun e => h e.symm)]
theorem has_cells (b : Nat) : ∀ (vs : List Value) (o : Nat) (w : World) (x : Addr), (w.cell? x).isSome = true → ((w.setCells b o vs).cell? x).isSome = true
  | [], _, _, _, h => h
  | v :: r, o, w, x, h => by
    refine has_cells b r (o + 1) _ x ?_
    by_cases e : (⟨b, o, none⟩ : Addr) = x
    · subst e
      rw [World.cell?_setCell_same' _ _ _ h]; rfl
    · rw [World.cell?_setCell_other _ _ _ _ (by first | exact e | exact fun h => e h.symm)]; exact h

/-- clear of a row: nothing below its block is changed -/
theorem run_clear {P : Program} (w : World) (t ty e : TypeId) (i : TypeInfo) (z : Value) (ht : P.underlying t = some (.slice e)) (hi : P.info? e = some i) (hz : i.zero = some z) (h1 : ∀ v ∈ z.cells.toList, v.oneCell' = true) (hpos : 0 < z.cells.size)
    (lo : Nat) (A : Option Addr) (n c : Nat) (hr : ∀ k, k < n → ∃ b, A = some ⟨b, 0, none⟩ ∧ lo ≤ b ∧ ∀ j, j < n * z.cells.size → (w.cell? ⟨b, j, none⟩).isSome = true ∧ w.frozen? ⟨b, j, none⟩ = false) :
    ∃ w', (Builtin.clear_ #[t] ty #[.slice A n c]).run P w = .ok (.tuple #[]) w' ∧ Below lo w w' ∧ w'.heap.size = w.heap.size ∧ (∀ x, (w.cell? x).isSome = true → (w'.cell? x).isSome = true) ∧ (∀ x, w'.frozen? x = w.frozen? x) ∧ ∀ i, (0 < n → ∀ b, A = some ⟨b, 0, none⟩ → i ≠ b) → w'.heap[i]? = w.heap[i]? := by
  cases n with
  | zero =>
    refine ⟨w, ?_, Below.refl _ _, rfl, fun _ h => h, fun _ => rfl, fun _ _ => rfl⟩
    cases A <;> simp [Builtin.clear_, run_underlying ht, Sem.run_bind, Sem.run_pure]
  | succ n =>
    obtain ⟨b, rfl, hb, hc⟩ := hr 0 (by omega)
    have hlen : (zeroCells z.cells (n + 1)).toList.length = (n + 1) * z.cells.size := by simp [size_zeroCells]
    have hone : ∀ v ∈ (zeroCells z.cells (n + 1)).toList, v.oneCell' = true := by
      intro v hv
      simp only [zeroCells, Array.toList_map, List.mem_map] at hv
      obtain ⟨k, _, rfl⟩ := hv
      have hk : k % z.cells.size < z.cells.size := Nat.mod_lt _ hpos
      rw [getElem!_pos z.cells _ hk]
      exact h1 _ (by simp)
    have hst := run_storeCells_cells (P := P) b 0 (zeroCells z.cells (n + 1)).toList 0 w (fun j hj => by have := (hc j (by omega)).1; simpa using this) (fun j hj => by have := (hc j (by omega)).2; simpa using this) hone
    refine ⟨w.setCells b (0 + 0) (zeroCells z.cells (n + 1)).toList, ?_, below_cells hb _ _ _ (Below.refl _ _), ?_, fun x h => has_cells _ _ _ _ _ h, fun x => World.frozen?_setCells _ _ _ _ _, fun i hi => heap_cells _ _ _ _ _ (hi (by omega) b rfl)⟩
    · simp [Builtin.clear_, run_underlying ht, Sem.run_bind, Sem.run_pure, zeroValue, typeInfo, hi, hz, hst, Result.andThen_ok]
    · have hsz : ∀ (vs : List Value) (o : Nat) (w : World), (w.setCells b o vs).heap.size = w.heap.size := by
        intro vs
        induction vs with
        | nil => intro o w; rfl
        | cons v r ih => intro o w; show (World.setCells (w.setCell ⟨b, o, none⟩ v) b (o + 1) r).heap.size = _; rw [ih]; simp [World.setCell]
      exact hsz _ _ _

theorem wpList_clear {P : Program} {w : World} {ops : Array Oper} {rest : List Oper} {o : Oper} {a : Act} {Q : Exit → Act → World → Prop} (hgd : o.guard = none) (x : Operand) (t : TypeId)
    (ho : o.op = .call { callee := .builtin .clear, args := #[x], argTypes := #[t] })
    (e : TypeId) (i : TypeInfo) (z : Value) (ht : P.underlying t = some (.slice e)) (hi : P.info? e = some i) (hz : i.zero = some z) (h1 : ∀ v ∈ z.cells.toList, v.oneCell' = true) (hpos : 0 < z.cells.size)
    (lo : Nat) (A : Option Addr) (n c : Nat) (hx : a.eval x = .slice A n c) (hr : ∀ k, k < n → ∃ b, A = some ⟨b, 0, none⟩ ∧ lo ≤ b ∧ ∀ j, j < n * z.cells.size → (w.cell? ⟨b, j, none⟩).isSome = true ∧ w.frozen? ⟨b, j, none⟩ = false)
    (h : ∀ w', Below lo w w' → w'.heap.size = w.heap.size → (∀ x, (w.cell? x).isSome = true → (w'.cell? x).isSome = true) → (∀ x, w'.frozen? x = w.frozen? x) → (∀ i, (0 < n → ∀ b, A = some ⟨b, 0, none⟩ → i ≠ b) → w'.heap[i]? = w.heap[i]?) → wpList P ops Q rest (a.put o.dst (.tuple #[])) w') : wpList P ops Q (o :: rest) a w :=
  wpList_plain hgd fun _ hK => by
    obtain ⟨w', hr', hb, hs, hc, hf, hk⟩ := run_clear (P := P) w t o.type e i z ht hi hz h1 hpos lo A n c hr
    unfold Oper.wp execOp
    simp only [ho, resolve, invoke, builtin, Sem.run_bind, Sem.run_pure, Result.andThen_ok, List.map_toArray, List.map_cons, List.map_nil, hx, hr']
    exact hK _ _ (h w' hb hs hc hf hk)
end Go.Proofs.Ytegmomappbehcaa
