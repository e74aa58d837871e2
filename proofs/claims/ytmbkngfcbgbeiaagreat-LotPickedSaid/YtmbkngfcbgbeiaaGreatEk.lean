/- Numbers in a block of one's own. (Taken together from XK3, XLb, XTb, XJb, XNm: for seats that lack what those texts name beside.) -/
import Derived.Test.YtmbkngfcbgbeiaaGreatEg
import Derived.Test.YtmbkngfcbgbeiaaGreatWt
import Derived.Deep.AppendLies
set_option linter.unusedSimpArgs false
set_option linter.unusedVariables false
namespace Go.Proofs.YtmbkngfcbgbeiaaGreat
open Go.RowKit Go.Shelf

def OwnInt (w : World) (lo : Nat) (A : Option Addr) (n : Nat) (X : Nat → Int) : Prop :=
  ∀ k, k < n → ∃ b, A = some ⟨b, 0, none⟩ ∧ lo ≤ b ∧ w.cell? ⟨b, k, none⟩ = some (.int .i64 (X k)) ∧ ∀ i, w.frozen? ⟨b, i, none⟩ = false
def intCell (X : Nat → Int) (j : Nat) : Int := X j
theorem IntRow.none {w : World} {B n : Nat} {A : Option Addr} {P : Nat → Int} (h : IntRow w B A n P) : A = none → n = 0 := fun e => by
  cases n with
  | zero => rfl
  | succ n => obtain ⟨b, o, hA, _⟩ := h 0 (by omega); rw [e] at hA; cases hA
theorem IntRow.atA {w : World} {B n : Nat} {P : Nat → Int} {a : Addr} (h : IntRow w B (some a) n P) {j : Nat} (hj : j < n * 1) : w.cell? (a.add j) = some (.int .i64 (intCell P j)) := by
  obtain ⟨b, o, hA, _, hc⟩ := h j (by omega)
  injection hA with hA
  subst hA
  rw [Addr.add_lit]
  exact hc
theorem OwnInt.of_owns {w : World} {lo n : Nat} {v : Value} {P : Nat → Int} (h : w.ownsRow lo 3 1 v n (numCells (intCell P) (n * 1))) : ∃ A c, v = .slice A n c ∧ OwnInt w lo A n P ∧ n ≤ c := by
  rcases h.2 with ⟨rfl, h0⟩ | ⟨g, cap, cur, rfl, hb, hg, hc, _⟩
  · refine ⟨Option.none, 0, by rw [h0], fun k hk => by omega, by omega⟩
  · refine ⟨some ⟨g, 0, Option.none⟩, cap, rfl, fun k hk => ⟨g, rfl, hb, ?_, fun i => frozen_of_row _ _ _ _ _ hg⟩, hc⟩
    have h1 := h.cells (g := g) rfl k _ (numCells_get (intCell P) (by omega))
    rwa [show ((⟨g, 0, Option.none⟩ : Addr).add k) = ⟨g, k, Option.none⟩ by by_cases hj : k = 0 <;> simp [Addr.add, hj]] at h1
theorem OwnInt.row {w : World} {lo n : Nat} {A : Option Addr} {P : Nat → Int} (h : OwnInt w lo A n P) : IntRow w w.heap.size A n P := fun k hk => by
  obtain ⟨b, hA, _, c0, _⟩ := h k hk
  exact ⟨b, 0, hA, World.block_lt_of_cell? w _ c0, by rw [Nat.zero_add]; exact c0⟩
theorem OwnInt.later {w w' : World} {lo n : Nat} {A : Option Addr} {P : Nat → Int} (h : OwnInt w lo A n P) (hb : Below w.heap.size w w') : OwnInt w' lo A n P := fun k hk => by
  obtain ⟨b, hA, hl, c0, hf⟩ := h k hk
  have hs := hb.block b (World.block_lt_of_cell? w _ c0)
  exact ⟨b, hA, hl, cell_same hs c0, fun i => fro_same hs (hf i)⟩


theorem OwnInt.keep {w w' : World} {lo n : Nat} {A : Option Addr} {P : Nat → Int} (h : OwnInt w lo A n P) (hk : ∀ b, lo ≤ b → b < w.heap.size → w'.heap[b]? = w.heap[b]?) : OwnInt w' lo A n P := fun k hk' => by
  obtain ⟨b, hA, hl, c0, hf⟩ := h k hk'
  have hs := hk b hl (World.block_lt_of_cell? w _ c0)
  exact ⟨b, hA, hl, cell_same hs c0, fun i => fro_same hs (hf i)⟩
theorem numCells_succ (X : Nat → Int) (n : Nat) : numCells X (n + 1) = numCells X n ++ [.int .i64 (X n)] := by simp [numCells, List.range_succ]

theorem own_keep {wr w' : World} {base cb : Nat} {e : TypeId} {size : Nat} {v : Value} {n : Nat} {xs : List Value} (h : wr.ownsRow base e size v n xs) (hg : wr.grownBy w' (some cb)) (hcb : cb < base) : w'.ownsRow base e size v n xs :=
  h.kept hg (by
    cases hv : v.ownBlock with
    | none => exact .inl rfl
    | some k => exact .inr (fun e => by injection e with e; have := (h.lt k hv).1; omega))
theorem numCells_put {X : Nat → Int} {k : Nat} (x : Int) : numCells X k ++ [.int .i64 x] = numCells (fun j => if j = k then x else X j) (k + 1) := by
  rw [numCells_succ]
  congr 1
  · unfold numCells
    refine List.map_congr_left (fun j hj => ?_)
    have : j < k := by simpa using hj
    show Value.int .i64 (X j) = Value.int .i64 (if j = k then x else X j)
    rw [if_neg (by omega)]
  · simp
theorem ownInt_of {w : World} {base n : Nat} {v : Value} {X : Nat → Int} (h : w.ownsRow base 3 1 v n (numCells X n)) : ∃ A c, v = .slice A n c ∧ OwnInt w base A n X ∧ n ≤ c := by
  rcases h.2 with ⟨rfl, h0⟩ | ⟨g, cap, cur, rfl, hb, hg, hc, _⟩
  · exact ⟨none, 0, by rw [h0], fun k hk => by omega, by omega⟩
  · refine ⟨some ⟨g, 0, none⟩, cap, rfl, fun k hk => ?_, hc⟩
    have h1 := h.cells (g := g) rfl k _ (numCells_get X (by omega))
    rw [show ((⟨g, 0, none⟩ : Addr).add k) = ⟨g, k, none⟩ by by_cases hj : k = 0 <;> simp [Addr.add, hj]] at h1
    exact ⟨g, rfl, hb, h1, fun i => frozen_of_row _ _ _ _ _ hg⟩

theorem OwnInt.put {w : World} {lo n b : Nat} {X : Nat → Int} (h : OwnInt w lo (some ⟨b, 0, none⟩) n X) {i : Nat} (hi : i < n) (v : Int) : OwnInt (w.setCell ⟨b, i, none⟩ (.int .i64 v)) lo (some ⟨b, 0, none⟩) n (fun t => if t = i then v else X t) := fun k hk => by
  obtain ⟨_, hA, hl, c0, hf⟩ := h k hk
  injection hA with hA
  injection hA with hA
  subst hA
  refine ⟨b, rfl, hl, ?_, fun j => fro_set_of _ (hf j)⟩
  dsimp only
  by_cases hki : k = i
  · subst hki
    rw [if_pos rfl]
    exact World.cell?_setCell_same' _ _ _ (by rw [c0]; rfl)
  · rw [if_neg hki, World.cell?_setCell_other _ _ _ _ (by intro e; injection e with _ e _; omega)]
    exact c0
theorem OwnInt.congr {w : World} {lo n : Nat} {A : Option Addr} {X Y : Nat → Int} (h : OwnInt w lo A n X) (e : ∀ k, k < n → X k = Y k) : OwnInt w lo A n Y := fun k hk => by
  obtain ⟨b, hA, hl, c0, hf⟩ := h k hk
  rw [e k hk] at c0
  exact ⟨b, hA, hl, c0, hf⟩
theorem OwnInt.low {w : World} {lo lo' n : Nat} {A : Option Addr} {X : Nat → Int} (h : OwnInt w lo A n X) (hl : lo' ≤ lo) : OwnInt w lo' A n X := fun k hk => by
  obtain ⟨b, hA, h1, h2⟩ := h k hk
  exact ⟨b, hA, Nat.le_trans hl h1, h2⟩
end Go.Proofs.YtmbkngfcbgbeiaaGreat
