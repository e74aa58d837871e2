/- copy of elements of several cells. -/
import Derived.Test.YtmbkngfcbgbeiaaGreatEd
import Derived.Test.YtmbkngfcbgbeiaaGreatEk
import Derived.Laws.MakeOwn
import Derived.Laws.CopyOwn
set_option linter.unusedSimpArgs false
set_option linter.unusedVariables false
namespace Go.Proofs.YtmbkngfcbgbeiaaGreat
open Go.RowKit Go.Shelf

theorem run_copy_sized {P : Program} (w : World) (dT sT ty elem : TypeId) (s g o dLen dCap : Nat) (a : Addr) (sLen sCap : Nat) (cur : Array Value) (t : TypeId) (cs : List Value)
    (hu : P.underlying dT = some (.slice elem)) (hs : (P.info? elem).map (·.size) = some s)
    (hg : w.heap[g]? = some (.cells cur t (0, 0))) (hn : cs.length = Nat.min sLen dLen * s)
    (hsrc : ∀ j v, cs[j]? = some v → w.cell? (a.add j) = some v) (hfit : o + cs.length ≤ cur.size) (h1 : ∀ v ∈ cs, v.oneCell' = true) :
    (Builtin.copy_ #[dT, sT] ty #[.slice (some ⟨g, o, none⟩) dLen dCap, .slice (some a) sLen sCap]).run P w =
      .ok (goInt (Nat.min sLen dLen)) (w.setRow g (cur.toList.take o ++ cs ++ cur.toList.drop (o + cs.length)).toArray) := by
  have hl := run_loadCells_list (P := P) w a cs hsrc
  have hst := run_storeCells_at (P := P) g o t cs 0 cur w hg (by simpa using hfit) h1
  cases hq : P.info? elem with
  | none => simp [hq] at hs
  | some i =>
    have hi : i.size = s := by simpa [hq] using hs
    simp [Builtin.copy_, run_underlying hu, Builtin.lenOf, Builtin.firstCells, sizeOf, typeInfo, hq, hi, ← hn, hl, hst]
theorem wpList_copy_sized {P : Program} {w : World} {ops : Array Oper} {rest : List Oper} {o : Oper} {a : Act} {Q : Exit → Act → World → Prop} (hgd : o.guard = none) (d s : Operand) (dT sT : TypeId)
    (ho : o.op = .call { callee := .builtin .copy, args := #[d, s], argTypes := #[dT, sT] }) (elem : TypeId) (sz : Nat) (hu : P.underlying dT = some (.slice elem)) (hsz : (P.info? elem).map (·.size) = some sz)
    (g off dLen dCap : Nat) (ad : Addr) (sLen sCap : Nat) (hd : a.eval d = .slice (some ⟨g, off, none⟩) dLen dCap) (hs : a.eval s = .slice (some ad) sLen sCap)
    (cur : Array Value) (t : TypeId) (hg : w.heap[g]? = some (.cells cur t (0, 0))) (cs : List Value) (hn : cs.length = Nat.min sLen dLen * sz)
    (hsrc : ∀ j v, cs[j]? = some v → w.cell? (ad.add j) = some v) (hfit : off + cs.length ≤ cur.size) (h1 : ∀ v ∈ cs, v.oneCell' = true)
    (h : wpList P ops Q rest (a.put o.dst (goInt (Nat.min sLen dLen))) (w.setRow g (cur.toList.take off ++ (cs ++ cur.toList.drop (off + cs.length))).toArray)) : wpList P ops Q (o :: rest) a w := by
  refine wpList_plain hgd fun K hK => ?_
  have hrun := run_copy_sized (P := P) w dT sT o.type elem sz g off dLen dCap ad sLen sCap cur t cs hu hsz hg hn hsrc hfit h1
  unfold Oper.wp
  simp [execOp, ho, resolve, invoke, builtin, hd, hs, hrun, Result.andThen]
  exact hK _ _ h

/-- rows of trays of one's own -/
def OwnTr (w : World) (b n : Nat) (T : Nat → Nat → Int) : Prop :=
  ∀ k, k < n → ∀ m, m < 5 → w.cell? ⟨b, k * 5 + m, none⟩ = some (.int .i64 (T k m)) ∧ w.frozen? ⟨b, k * 5 + m, none⟩ = false
theorem OwnTr.same {w w' : World} {b n : Nat} {T : Nat → Nat → Int} (h : OwnTr w b n T) (hs : w'.heap[b]? = w.heap[b]?) : OwnTr w' b n T := fun k hk m hm => ⟨cell_same hs (h k hk m hm).1, fro_same hs (h k hk m hm).2⟩
theorem OwnTr.row {w : World} {b n : Nat} {T : Nat → Nat → Int} (h : OwnTr w b n T) : TrRow w w.heap.size (some ⟨b, 0, none⟩) n T := fun k hk => by
  have h0 := (h k hk 0 (by omega)).1
  refine ⟨b, 0, rfl, World.block_lt_of_cell? w _ h0, ?_, ?_, ?_, ?_, ?_⟩
  · rw [Nat.zero_add]; exact h0
  · rw [Nat.zero_add]; exact (h k hk 1 (by omega)).1
  · rw [Nat.zero_add]; exact (h k hk 2 (by omega)).1
  · rw [Nat.zero_add]; exact (h k hk 3 (by omega)).1
  · rw [Nat.zero_add]; exact (h k hk 4 (by omega)).1
theorem OwnTr.put {w : World} {b n : Nat} {T : Nat → Nat → Int} (h : OwnTr w b n T) {k m : Nat} (hk : k < n) (hm : m < 5) (v : Int) : OwnTr (w.setCell ⟨b, k * 5 + m, none⟩ (.int .i64 v)) b n (fun i j => if i = k ∧ j = m then v else T i j) := fun i hi j hj => by
  obtain ⟨c, f⟩ := h i hi j hj
  refine ⟨?_, fro_set_of _ f⟩
  dsimp only
  by_cases e : i = k ∧ j = m
  · obtain ⟨rfl, rfl⟩ := e
    rw [if_pos ⟨rfl, rfl⟩]
    exact World.cell?_setCell_same' _ _ _ (by rw [c]; rfl)
  · rw [if_neg e, World.cell?_setCell_other _ _ _ _ (by intro e2; injection e2 with _ e2 _; apply e; omega)]
    exact c
/-- cells of trays -/
def trCell (T : Nat → Nat → Int) (j : Nat) : Int := T (j / 5) (j % 5)
theorem own_of_cells {w : World} {g n : Nat} {T : Nat → Nat → Int} {cur : Array Value} {t : TypeId} (hg : w.heap[g]? = some (.cells cur t (0, 0))) (hc : ∀ j, j < n * 5 → cur[j]? = some (.int .i64 (trCell T j))) : OwnTr w g n T := fun k hk m hm => by
  have hj : k * 5 + m < n * 5 := by omega
  have h1 := hc _ hj
  have e1 : (k * 5 + m) / 5 = k := by omega
  have e2 : (k * 5 + m) % 5 = m := by omega
  unfold trCell at h1
  rw [e1, e2] at h1
  refine ⟨?_, ?_⟩
  · unfold World.cell?
    rw [hg]
    simpa using h1
  · unfold World.frozen?
    rw [hg]
    simp
theorem made_zero (n j : Nat) (h : j < n * 5) : (madeCells (Value.cells (.agg #[.int .i64 0, .int .i64 0, .int .i64 0, .int .i64 0, .int .i64 0])) (n * 5))[j]? = some (.int .i64 0) := by
  have hs : (madeCells (Value.cells (.agg #[.int .i64 0, .int .i64 0, .int .i64 0, .int .i64 0, .int .i64 0])) (n * 5)).size = n * 5 := size_madeCells _ _
  rw [Array.getElem?_eq_getElem (by omega)]
  congr 1
  have h5 : j % 5 = 0 ∨ j % 5 = 1 ∨ j % 5 = 2 ∨ j % 5 = 3 ∨ j % 5 = 4 := by omega
  simp only [madeCells, Array.getElem_map, Array.getElem_range]
  show (#[Value.int .i64 0, .int .i64 0, .int .i64 0, .int .i64 0, .int .i64 0] : Array Value)[j % 5]! = _
  rcases h5 with e | e | e | e | e <;> rw [e] <;> rfl
end Go.Proofs.YtmbkngfcbgbeiaaGreat
