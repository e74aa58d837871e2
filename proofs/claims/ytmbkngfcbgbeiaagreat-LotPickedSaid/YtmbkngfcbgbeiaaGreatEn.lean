/- Rows of trays and of hands that were appended one by one. -/
import Derived.Test.YtmbkngfcbgbeiaaGreatEm
set_option linter.unusedSimpArgs false
set_option linter.unusedVariables false
namespace Go.Proofs.YtmbkngfcbgbeiaaGreat
open Go.RowKit Go.Shelf

/-- cells of a tray, of a hand -/
def trC (t : Nat → Int) : List Value := [.int .i64 (t 0), .int .i64 (t 1), .int .i64 (t 2), .int .i64 (t 3), .int .i64 (t 4)]
def hdC (x : HndA) : List Value := [.bool (x.h.tk 0), .bool (x.h.tk 1), .bool (x.h.tk 2), .bool (x.h.tk 3), .bool (x.h.tk 4), .int .i64 x.h.st, .int .i64 x.h.ti, .int .i64 x.h.sl, .slice x.a x.h.nr x.c]
/-- cells of a row, element by element -/
def rowC {α : Type} (f : α → List Value) (X : Nat → α) : Nat → List Value
  | 0 => []
  | n + 1 => rowC f X n ++ f (X n)
theorem rowC_len {α : Type} {f : α → List Value} {c : Nat} (hf : ∀ x, (f x).length = c) (X : Nat → α) : ∀ n, (rowC f X n).length = n * c
  | 0 => by simp [rowC]
  | n + 1 => by rw [rowC, List.length_append, rowC_len hf X n, hf, Nat.succ_mul]
theorem rowC_get {α : Type} {f : α → List Value} {c : Nat} (hf : ∀ x, (f x).length = c) (X : Nat → α) : ∀ n k j, k < n → j < c → (rowC f X n)[k * c + j]? = (f (X k))[j]?
  | 0, k, j, hk, _ => absurd hk (by omega)
  | n + 1, k, j, hk, hj => by
    have hl := rowC_len hf X n
    unfold rowC
    by_cases e : k = n
    · subst e
      rw [List.getElem?_append_right (by omega), hl, Nat.add_sub_cancel_left]
    · have hm : (k + 1) * c ≤ n * c := Nat.mul_le_mul_right c (by omega)
      rw [Nat.succ_mul] at hm
      rw [List.getElem?_append_left (by omega)]
      exact rowC_get hf X n k j (by omega) hj
theorem rowC_congr {α : Type} {f : α → List Value} {X Y : Nat → α} : ∀ n, (∀ k, k < n → X k = Y k) → rowC f X n = rowC f Y n
  | 0, _ => rfl
  | n + 1, h => by rw [rowC, rowC, rowC_congr n (fun k hk => h k (by omega)), h n (by omega)]
theorem rowC_put {α : Type} {f : α → List Value} {X : Nat → α} {k : Nat} (x : α) : rowC f X k ++ f x = rowC f (fun j => if j = k then x else X j) (k + 1) := by
  rw [rowC, if_pos rfl, rowC_congr (Y := fun j => if j = k then x else X j) k (fun j hj => by rw [if_neg (by omega)])]
theorem rowC_one {α : Type} {f : α → List Value} (hf : ∀ x, ∀ v ∈ f x, v.oneCell' = true) (X : Nat → α) : ∀ n, ∀ v ∈ rowC f X n, v.oneCell' = true
  | 0, v, hv => by cases hv
  | n + 1, v, hv => by
    rcases List.mem_append.1 hv with h | h
    · exact rowC_one hf X n v h
    · exact hf _ v h
theorem trC_len (t : Nat → Int) : (trC t).length = 5 := rfl
theorem hdC_len (x : HndA) : (hdC x).length = 9 := rfl
theorem trC_one (t : Nat → Int) : ∀ v ∈ trC t, v.oneCell' = true := by
  intro v hv
  simp only [trC, List.mem_cons, List.not_mem_nil, or_false] at hv
  rcases hv with rfl | rfl | rfl | rfl | rfl <;> rfl
theorem hdC_one (x : HndA) : ∀ v ∈ hdC x, v.oneCell' = true := by
  intro v hv
  simp only [hdC, List.mem_cons, List.not_mem_nil, or_false] at hv
  rcases hv with rfl | rfl | rfl | rfl | rfl | rfl | rfl | rfl | rfl <;> rfl
theorem add_at (g k : Nat) : ((⟨g, 0, none⟩ : Addr).add k) = ⟨g, k, none⟩ := by by_cases hj : k = 0 <;> simp [Addr.add, hj]
/-- what is owned is a row -/
theorem trRow_of {w : World} {base n : Nat} {v : Value} {T : Nat → Nat → Int} (h : w.ownsRow base 60 5 v n (rowC trC T n)) : ∃ A c, v = .slice A n c ∧ TrRow w w.heap.size A n T ∧ n ≤ c := by
  rcases h.2 with ⟨rfl, h0⟩ | ⟨g, cap, cur, rfl, hb, hg, hc, _⟩
  · exact ⟨none, 0, by rw [h0], fun k hk => by omega, by omega⟩
  · refine ⟨some ⟨g, 0, none⟩, cap, rfl, fun k hk => ?_, hc⟩
    have key : ∀ j v, j < 5 → (trC (T k))[j]? = some v → w.cell? ⟨g, 0 + k * 5 + j, none⟩ = some v := fun j v hj hv => by
      have h1 := h.cells (g := g) rfl (k * 5 + j) v (by rw [rowC_get trC_len T n k j hk hj]; exact hv)
      rw [add_at] at h1
      rw [Nat.zero_add]; exact h1
    have h0 := key 0 _ (by omega) rfl
    rw [Nat.add_zero] at h0
    exact ⟨g, 0, rfl, World.block_lt_of_cell? w _ h0, h0, key 1 _ (by omega) rfl, key 2 _ (by omega) rfl, key 3 _ (by omega) rfl, key 4 _ (by omega) rfl⟩
theorem hdRow_of {w : World} {base n : Nat} {v : Value} {G : Nat → HndA} (h : w.ownsRow base 40 9 v n (rowC hdC G n)) : ∃ A c, v = .slice A n c ∧ HdRow w w.heap.size A n G ∧ n ≤ c := by
  rcases h.2 with ⟨rfl, h0⟩ | ⟨g, cap, cur, rfl, hb, hg, hc, _⟩
  · exact ⟨none, 0, by rw [h0], fun k hk => by omega, by omega⟩
  · refine ⟨some ⟨g, 0, none⟩, cap, rfl, fun k hk => ?_, hc⟩
    have key : ∀ j v, j < 9 → (hdC (G k))[j]? = some v → w.cell? ⟨g, 0 + k * 9 + j, none⟩ = some v := fun j v hj hv => by
      have h1 := h.cells (g := g) rfl (k * 9 + j) v (by rw [rowC_get hdC_len G n k j hk hj]; exact hv)
      rw [add_at] at h1
      rw [Nat.zero_add]; exact h1
    have h0 := key 0 _ (by omega) rfl
    rw [Nat.add_zero] at h0
    exact ⟨g, 0, rfl, World.block_lt_of_cell? w _ h0, h0, key 1 _ (by omega) rfl, key 2 _ (by omega) rfl, key 3 _ (by omega) rfl, key 4 _ (by omega) rfl, key 5 _ (by omega) rfl, key 6 _ (by omega) rfl, key 7 _ (by omega) rfl, key 8 _ (by omega) rfl⟩
theorem infoHd : (Tryz.prog.info? 40).map (fun i => (i.zero, i.size, i.bytes)) = some (some (.agg #[.bool false, .bool false, .bool false, .bool false, .bool false, .int .i64 0, .int .i64 0, .int .i64 0, .slice none 0 0]), 9, 56) := by kernel_rfl
theorem hands_under : Tryz.prog.underlying 24 = some (.slice 40) := by kernel_rfl
/-- two cells of one's own -/
structure V2 (w : World) (b : Nat) (v g : Value) : Prop where
  c0 : w.cell? ⟨b, 0, none⟩ = some v
  c1 : w.cell? ⟨b, 1, none⟩ = some g
  f0 : w.frozen? ⟨b, 0, none⟩ = false
  f1 : w.frozen? ⟨b, 1, none⟩ = false
theorem V2.same {w w' : World} {b : Nat} {v g : Value} (h : V2 w b v g) (hs : w'.heap[b]? = w.heap[b]?) : V2 w' b v g := ⟨cell_same hs h.c0, cell_same hs h.c1, fro_same hs h.f0, fro_same hs h.f1⟩
theorem V2.lt {w : World} {b : Nat} {v g : Value} (h : V2 w b v g) : b < w.heap.size := World.block_lt_of_cell? w _ h.c0
theorem V2.set0 {w : World} {b : Nat} {v g : Value} (h : V2 w b v g) (u : Value) : V2 (w.setCell ⟨b, 0, none⟩ u) b u g :=
  ⟨by simp [go_sem, h.c0], by simp [go_sem, h.c1], fro_set_of _ h.f0, fro_set_of _ h.f1⟩
theorem V2.set1 {w : World} {b : Nat} {v g : Value} (h : V2 w b v g) (u : Value) : V2 (w.setCell ⟨b, 1, none⟩ u) b v u :=
  ⟨by simp [go_sem, h.c0], by simp [go_sem, h.c1], fro_set_of _ h.f0, fro_set_of _ h.f1⟩
/-- a hand under way -/
structure HuAt (w : World) (b : Nat) (tk : Nat → Bool) (st ti sl : Int) (r : Value) : Prop where
  t : ∀ j, j < 5 → w.cell? ⟨b, j, none⟩ = some (.bool (tk j)) ∧ w.frozen? ⟨b, j, none⟩ = false
  c5 : w.cell? ⟨b, 5, none⟩ = some (.int .i64 st)
  c6 : w.cell? ⟨b, 6, none⟩ = some (.int .i64 ti)
  c7 : w.cell? ⟨b, 7, none⟩ = some (.int .i64 sl)
  c8 : w.cell? ⟨b, 8, none⟩ = some r
  f8 : w.frozen? ⟨b, 8, none⟩ = false
theorem HuAt.same {w w' : World} {b : Nat} {tk : Nat → Bool} {st ti sl : Int} {r : Value} (h : HuAt w b tk st ti sl r) (hs : w'.heap[b]? = w.heap[b]?) : HuAt w' b tk st ti sl r :=
  ⟨fun j hj => ⟨cell_same hs (h.t j hj).1, fro_same hs (h.t j hj).2⟩, cell_same hs h.c5, cell_same hs h.c6, cell_same hs h.c7, cell_same hs h.c8, fro_same hs h.f8⟩
theorem HuAt.lt {w : World} {b : Nat} {tk : Nat → Bool} {st ti sl : Int} {r : Value} (h : HuAt w b tk st ti sl r) : b < w.heap.size := World.block_lt_of_cell? w _ h.c5
theorem HuAt.tk {w : World} {b : Nat} {tk : Nat → Bool} {st ti sl : Int} {r : Value} (h : HuAt w b tk st ti sl r) {m : Nat} (hm : m < 5) (v : Bool) : HuAt (w.setCell ⟨b, m, none⟩ (.bool v)) b (fun j => if j = m then v else tk j) st ti sl r := by
  have o : ∀ j x, j ≠ m → w.cell? ⟨b, j, none⟩ = some x → (w.setCell ⟨b, m, none⟩ (.bool v)).cell? ⟨b, j, none⟩ = some x := fun j x hj h => by
    rw [World.cell?_setCell_other _ _ _ _ (by intro e2; injection e2 with _ e2 _; omega)]; exact h
  refine ⟨fun j hj => ⟨?_, fro_set_of _ (h.t j hj).2⟩, o 5 _ (by omega) h.c5, o 6 _ (by omega) h.c6, o 7 _ (by omega) h.c7, o 8 _ (by omega) h.c8, fro_set_of _ h.f8⟩
  by_cases e : j = m
  · subst e
    rw [if_pos rfl]
    exact World.cell?_setCell_same' _ _ _ (by rw [(h.t j hj).1]; rfl)
  · rw [if_neg e]
    exact o j _ e (h.t j hj).1
theorem HuAt.rs {w : World} {b : Nat} {tk : Nat → Bool} {st ti sl : Int} {r : Value} (h : HuAt w b tk st ti sl r) (v : Value) : HuAt (w.setCell ⟨b, 8, none⟩ v) b tk st ti sl v := by
  have o : ∀ j x, j ≠ 8 → w.cell? ⟨b, j, none⟩ = some x → (w.setCell ⟨b, 8, none⟩ v).cell? ⟨b, j, none⟩ = some x := fun j x hj h => by
    rw [World.cell?_setCell_other _ _ _ _ (by intro e2; injection e2 with _ e2 _; omega)]; exact h
  exact ⟨fun j hj => ⟨o j _ (by omega) (h.t j hj).1, fro_set_of _ (h.t j hj).2⟩, o 5 _ (by omega) h.c5, o 6 _ (by omega) h.c6, o 7 _ (by omega) h.c7, World.cell?_setCell_same' _ _ _ (by rw [h.c8]; rfl), fro_set_of _ h.f8⟩
theorem owns_sm {w w' : World} {base : Nat} {e : TypeId} {size : Nat} {v : Value} {n : Nat} {xs : List Value} (h : w.ownsRow base e size v n xs) (hk : ∀ g, base ≤ g → v.ownBlock = some g → w'.heap[g]? = w.heap[g]?) : w'.ownsRow base e size v n xs :=
  ⟨h.1, h.2.imp id (fun ⟨g, cap, cur, a, b, c, d⟩ => ⟨g, cap, cur, a, b, (hk g b (by rw [a]; rfl)).trans c, d⟩)⟩
/-- the rests of hands, none of which lie where the hands do -/
def RsAt (w : World) (base : Nat) (v : Value) (n nt : Nat) (G : Nat → HndA) : Prop :=
  ∀ k, k < n → (G k).h.nr ≤ nt ∧ (∀ j, j < (G k).h.nr → 0 ≤ (G k).h.rs j ∧ (G k).h.rs j < (nt : Int)) ∧ (∀ j, j + 1 < (G k).h.nr → (G k).h.rs j < (G k).h.rs (j + 1)) ∧ ∀ j, j < (G k).h.nr → ∃ b, (G k).a = some ⟨b, 0, none⟩ ∧ base ≤ b ∧ v.ownBlock ≠ some b ∧ w.cell? ⟨b, j, none⟩ = some (.int .i64 ((G k).h.rs j))
theorem RsAt.keep {w w' : World} {base : Nat} {v v' : Value} {n nt : Nat} {G : Nat → HndA} (h : RsAt w base v n nt G) (hk : ∀ g, base ≤ g → g < w.heap.size → v.ownBlock ≠ some g → v'.ownBlock ≠ some g ∧ w'.heap[g]? = w.heap[g]?) : RsAt w' base v' n nt G := fun k hk' => by
  obtain ⟨h1, h2, h3, h4⟩ := h k hk'
  refine ⟨h1, h2, h3, fun j hj => ?_⟩
  obtain ⟨b, e, hb, hv, hc⟩ := h4 j hj
  have hs := hk b hb (World.block_lt_of_cell? w _ hc) hv
  exact ⟨b, e, hb, hs.1, cell_same hs.2 hc⟩
theorem RsAt.row {w : World} {base : Nat} {v : Value} {n nt : Nat} {G : Nat → HndA} (h : RsAt w base v n nt G) : ∀ k, k < n → IntRow w w.heap.size (G k).a (G k).h.nr (G k).h.rs := fun k hk j hj => by
  obtain ⟨b, e, hb, hv, hc⟩ := (h k hk).2.2.2 j hj
  exact ⟨b, 0, e, World.block_lt_of_cell? w _ hc, by rw [Nat.zero_add]; exact hc⟩
end Go.Proofs.YtmbkngfcbgbeiaaGreat
