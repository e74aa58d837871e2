/- append of a row that came in to an empty slice of one's own, at a step of a region that draws. -/
import Derived.Test.YtegmomappbehcaaLb
import Derived.Deep.AppendLies
set_option linter.unusedSimpArgs false
set_option linter.unusedVariables false
namespace Go.Proofs.Ytegmomappbehcaa
open Go.RowKit Go.Shelf

theorem heap_drew_of {w : World} {i : Nat} {r : Option Obj} (h : w.heap[i]? = r) : w.drew.heap[i]? = r := h

theorem heap_new_at {w : World} {o : Obj} {i : Nat} (h : w.heap.size = i) : (w.alloc o).heap[i]? = some o := by
  subst h
  exact heap_alloc_new w o
/-- a row of one's own is as it was if its block is -/
theorem OwnPk.keepB {w w' : World} {lo n : Nat} {A : Option Addr} {P : Nat → Pk} (h : OwnPk w lo A n P) (hk : ∀ b, A = some ⟨b, 0, none⟩ → w'.heap[b]? = w.heap[b]?) : OwnPk w' lo A n P := fun k hlt => by
  obtain ⟨b, hA, hl, c0, c1, c2, c3, hf⟩ := h k hlt
  have hs := hk b hA
  exact ⟨b, hA, hl, cell_same hs c0, cell_same hs c1, cell_same hs c2, cell_same hs c3, fun i => fro_same hs (hf i)⟩
theorem OwnGd.keepB {w w' : World} {lo n : Nat} {A : Option Addr} {P : Nat → Gd} (h : OwnGd w lo A n P) (hk : ∀ b, A = some ⟨b, 0, none⟩ → w'.heap[b]? = w.heap[b]?) : OwnGd w' lo A n P := fun k hlt => by
  obtain ⟨b, hA, hl, c0, c1, hf⟩ := h k hlt
  have hs := hk b hA
  exact ⟨b, hA, hl, cell_same hs c0, cell_same hs c1, fun i => fro_same hs (hf i)⟩

theorem run_app_none {P : Program} {w : World} (base : Nat) (t ty e : TypeId) (i : TypeInfo) (size : Nat) (ht : P.underlying t = some (.slice e)) (hi : P.info? e = some i)
    (v : Value) (n : Nat) (xs : List Value) (hown : w.ownsRow base e size v n xs) (c : Nat) : (Builtin.append_ #[t, t] ty #[v, .slice none 0 c]).run P w = .ok v w := by
  rcases hown.2 with ⟨rfl, rfl⟩ | ⟨g, cap, cur, rfl, _, _, hnc, _⟩
  · simp [Builtin.append_, run_underlying ht, sizeOf, typeInfo, hi, Builtin.lenOf, Builtin.firstCells]
  · simp [Builtin.append_, run_underlying ht, sizeOf, typeInfo, hi, Builtin.lenOf, Builtin.firstCells, hnc, storeCells]

theorem owns_empty {w : World} {lo g : Nat} {e : TypeId} {size : Nat} (hg : w.heap[g]? = some (.cells #[] e)) (hl : lo ≤ g) : w.ownsRow lo e size (.slice (some ⟨g, 0, none⟩) 0 0) 0 [] :=
  ⟨by simp, .inr ⟨g, 0, #[], rfl, hl, hg, Nat.le_refl _, Nat.zero_le _, by simp, by simp⟩⟩

theorem step_app {P : Program} {w : World} {ops : Array Oper} {o : Oper} {a : Act} {K : Act → World → Prop} {Q : Exit → Act → World → Prop} {E : Prop} (hgd : o.guard = none) (s x : Operand) (T TE : TypeId)
    (ho : o.op = .call { callee := .builtin .append, args := #[s, x], argTypes := #[T, T] }) (i : TypeInfo) (z : Value) (size bytes : Nat)
    (ht : P.underlying T = some (.slice TE)) (hi : P.info? TE = some i) (hz : i.zero = some z) (hsize : i.size = size) (hby : i.bytes = bytes) (hzs : z.cells.size = size) (hsz : 0 < size) (hb2 : bytes ≤ 64)
    (lo g : Nat) (hs : a.eval s = .slice (some ⟨g, 0, none⟩) 0 0) (hg : w.heap[g]? = some (.cells #[] TE)) (hlo : lo ≤ g)
    (A : Option Addr) (n c : Nat) (cells : Nat → Int) (hx : a.eval x = .slice A n c) (hA : A = none → n = 0) (hr : ∀ ad, A = some ad → ∀ j, j < n * size → w.cell? (ad.add j) = some (.int .i64 (cells j))) (hn : n ≤ 1000)
    (h : ∀ v w', w'.ownsRow lo TE size v n (numCells cells (n * size)) → w.grownBy w' (some g) → (v.ownBlock = some g ∨ v.ownBlock = some w.heap.size) → K (a.put o.dst v) w') :
    if Region.wanted o (yielded ops a.tmps) = true then Oper.wp P o a w K Q else E := by
  have hw : Region.wanted o (yielded ops a.tmps) = true := by simp [Region.wanted, hgd]
  have hgl : g < w.heap.size := (Array.getElem?_eq_some_iff.1 hg).1
  rw [if_pos hw]
  have hrun : ∃ v w', (Builtin.append_ #[T, T] o.type #[.slice (some ⟨g, 0, none⟩) 0 0, .slice A n c]).run P w = .ok v w' ∧ w'.ownsRow lo TE size v n (numCells cells (n * size)) ∧ w.grownBy w' (some g) ∧ (v.ownBlock = some g ∨ v.ownBlock = some w.heap.size) := by
    cases A with
    | none =>
      obtain rfl := hA rfl
      exact ⟨_, w, run_app_none lo T o.type TE i size ht hi _ 0 [] (owns_empty hg hlo) c, by simpa [numCells] using owns_empty (size := size) hg hlo, World.grownBy.refl _ _, .inl rfl⟩
    | some ad =>
      obtain ⟨v', w', hr1, h2, h3, _, h5⟩ := run_append_own_at (P := P) w lo T o.type TE i z size bytes ht hi hz hsize hby hzs hsz _ 0 [] (owns_empty hg hlo) ad n c (numCells cells (n * size)) (numCells_len _ _)
        (fun j u hj => by
          have hjn : j < n * size := by have := (List.getElem?_eq_some_iff.1 hj).1; rwa [numCells_len] at this
          rw [numCells_get _ hjn] at hj
          injection hj with hj
          subst hj
          exact hr ad rfl j hjn) (numCells_one _ _) (by unfold maxLen; omega) (by have : (0 + n) * bytes ≤ 1000 * 64 := Nat.mul_le_mul (by omega) hb2; omega) (by omega)
      exact ⟨v', w', hr1, by simpa using h2, h3, h5⟩
  obtain ⟨v', w', hr1, h2, h3, h5⟩ := hrun
  unfold Oper.wp execOp
  simp only [ho, resolve, invoke, builtin, Sem.run_bind, Sem.run_pure, Result.andThen_ok, List.map_toArray, List.map_cons, List.map_nil, hs, hx, hr1]
  exact h v' w' h2 h3 h5
end Go.Proofs.Ytegmomappbehcaa
