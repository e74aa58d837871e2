/- A store that is made of two rows of one's own in a drawn region: each order closed. -/
import Derived.Test.YtegmomappbehcaaTr
import Derived.Test.YtegmomappbehcaaLc
set_option linter.unusedSimpArgs false
set_option linter.unusedVariables false
namespace Go.Proofs.Ytegmomappbehcaa
open Go.RowKit Go.Shelf

/-- a store made of two rows of one's own, in a block of one's own -/
structure RowsOwn (w : World) (lo bO : Nat) (A : Option Addr) (c : Nat) (A2 : Option Addr) (c2 : Nat) (st : St) : Prop where
  bl : lo ≤ bO
  s0 : w.cell? ⟨bO, 0, none⟩ = some (.slice A st.n c)
  s1 : w.cell? ⟨bO, 1, none⟩ = some (.slice A2 st.m c2)
  s2 : w.cell? ⟨bO, 2, none⟩ = some (.int .i64 st.lots)
  p : OwnPk w lo A st.n st.P
  g : OwnGd w lo A2 st.m st.G
  pc : st.n ≤ c
  gc : st.m ≤ c2
  np : ∀ b, A = some ⟨b, 0, none⟩ → 0 < st.n → b ≠ bO ∧ ∀ b2, A2 = some ⟨b2, 0, none⟩ → 0 < st.m → b ≠ b2


theorem own_at {A : Option Addr} {n c g s b : Nat} (h : (Value.slice A n c).ownBlock = some g ∨ (Value.slice A n c).ownBlock = some s) (e : A = some ⟨b, 0, none⟩) : b = g ∨ b = s := by
  subst e
  rcases h with h | h
  · injection h with h; exact .inl h
  · injection h with h; exact .inr h
theorem OwnPk.keepC {w w' : World} {lo n : Nat} {A : Option Addr} {P : Nat → Pk} (h : OwnPk w lo A n P) (hk : ∀ b, A = some ⟨b, 0, none⟩ → b < w.heap.size → w'.heap[b]? = w.heap[b]?) : OwnPk w' lo A n P := fun k hlt => by
  obtain ⟨b, hA, hl, c0, c1, c2, c3, hf⟩ := h k hlt
  have hs := hk b hA (World.block_lt_of_cell? w _ c0)
  exact ⟨b, hA, hl, cell_same hs c0, cell_same hs c1, cell_same hs c2, cell_same hs c3, fun i => fro_same hs (hf i)⟩
theorem OwnGd.keepC {w w' : World} {lo n : Nat} {A : Option Addr} {P : Nat → Gd} (h : OwnGd w lo A n P) (hk : ∀ b, A = some ⟨b, 0, none⟩ → b < w.heap.size → w'.heap[b]? = w.heap[b]?) : OwnGd w' lo A n P := fun k hlt => by
  obtain ⟨b, hA, hl, c0, c1, hf⟩ := h k hlt
  have hs := hk b hA (World.block_lt_of_cell? w _ c0)
  exact ⟨b, hA, hl, cell_same hs c0, cell_same hs c1, fun i => fro_same hs (hf i)⟩
theorem rows_close {W1 wP wG wX : World} {st : St} {AP AG : Option Addr} {cP cG bO gP sP gG sG : Nat} (hop : OwnPk wP W1.heap.size AP st.n st.P) (hog : OwnGd wG W1.heap.size AG st.m st.G) (hcP : st.n ≤ cP) (hcG : st.m ≤ cG)
    (hatP : (Value.slice AP st.n cP).ownBlock = some gP ∨ (Value.slice AP st.n cP).ownBlock = some sP) (hatG : (Value.slice AG st.m cG).ownBlock = some gG ∨ (Value.slice AG st.m cG).ownBlock = some sG)
    (hlo : W1.heap.size ≤ bO) (hs : wX.cell? ⟨bO, 0, none⟩ = some (.slice AP st.n cP) ∧ wX.cell? ⟨bO, 1, none⟩ = some (.slice AG st.m cG) ∧ wX.cell? ⟨bO, 2, none⟩ = some (.int .i64 st.lots))
    (kP : ∀ b, b = gP ∨ b = sP → b < wP.heap.size → wX.heap[b]? = wP.heap[b]?) (kG : ∀ b, b = gG ∨ b = sG → b < wG.heap.size → wX.heap[b]? = wG.heap[b]?)
    (kN : (gP < wP.heap.size → gP ≠ bO ∧ gP ≠ gG ∧ gP ≠ sG) ∧ (sP < wP.heap.size → sP ≠ bO ∧ sP ≠ gG ∧ sP ≠ sG))
    (hbel : Below W1.heap.size W1 wX) : Hid (RowsOwn wX W1.heap.size bO AP cP AG cG st) ∧ Hid (Below W1.heap.size W1 wX) := by
  refine ⟨Lib.hid ⟨hlo, hs.1, hs.2.1, hs.2.2, hop.keepC (fun b hA hb => kP b (own_at hatP hA) hb), hog.keepC (fun b hA hb => kG b (own_at hatG hA) hb), hcP, hcG, fun b hA hn => ?_⟩, Lib.hid hbel⟩
  obtain ⟨b', hA', _, c0, _⟩ := hop 0 hn
  rw [hA] at hA'
  injection hA' with hA'
  injection hA' with hA'
  subst hA'
  have hb := World.block_lt_of_cell? wP _ c0
  dsimp only at hb
  have h3 : b ≠ bO ∧ b ≠ gG ∧ b ≠ sG := by
    rcases own_at hatP hA with rfl | rfl
    · exact kN.1 hb
    · exact kN.2 hb
  refine ⟨h3.1, fun b2 hA2 _ => ?_⟩
  rcases own_at hatG hA2 with rfl | rfl
  · exact h3.2.1
  · exact h3.2.2
theorem cell_rewr {w : World} {p a : Addr} {v u : Value} (hp : w.cell? p = some v) (ha : w.cell? a = some u) : (w.setCell p v).cell? a = some u := by
  by_cases e : p = a
  · subst e
    rw [World.cell?_setCell_same' _ _ _ (by rw [hp]; rfl), ← hp, ha]
  · rw [World.cell?_setCell_other _ _ _ _ (by first | exact e | exact fun h => e h.symm)]; exact ha
/-- the store of a picking of which more sacks were opened -/
def putPk (w : World) (b k : Nat) (x : Pk) (q f : Int) : World :=
  (((w.setCell ⟨b, k * 4, none⟩ (.int .i64 x.s)).setCell ⟨b, k * 4 + 1, none⟩ (.int .i64 x.w)).setCell ⟨b, k * 4 + 2, none⟩ (.int .i64 (x.o + q))).setCell ⟨b, k * 4 + 3, none⟩ (.int .i64 (x.f + f))
theorem putPk_heap {w : World} {b k : Nat} {x : Pk} {q f : Int} {i : Nat} (h : i ≠ b) : (putPk w b k x q f).heap[i]? = w.heap[i]? := by
  unfold putPk
  exact (set_heap _ h).trans ((set_heap _ h).trans ((set_heap _ h).trans (set_heap _ h)))
theorem putPk_below {w : World} {b k : Nat} {x : Pk} {q f : Int} {B : Nat} (h : B ≤ b) : Below B w (putPk w b k x q f) := by
  unfold putPk
  exact ((((Below.refl B w).setCell h _).setCell h _).setCell h _).setCell h _
theorem RowsOwn.put {w : World} {lo bO bA c c2 : Nat} {A2 : Option Addr} {st : St} (h : RowsOwn w lo bO (some ⟨bA, 0, none⟩) c A2 c2 st) {k : Nat} (hk : k < st.n) (q f : Int) :
    RowsOwn (putPk w bA k (st.P k) q f) lo bO (some ⟨bA, 0, none⟩) c A2 c2 (st.more k q f) := by
  obtain ⟨b', hA', _, c0, c1, c2', c3, _⟩ := h.p k hk
  injection hA' with hA'
  injection hA' with hA'
  subst hA'
  have hne := h.np bA rfl (by omega)
  have hO := putPk_heap (w := w) (k := k) (x := st.P k) (q := q) (f := f) (Ne.symm hne.1)
  have h1 : OwnPk ((w.setCell ⟨bA, k * 4, none⟩ (.int .i64 (st.P k).s)).setCell ⟨bA, k * 4 + 1, none⟩ (.int .i64 (st.P k).w)) lo (some ⟨bA, 0, none⟩) st.n st.P := fun j hj => by
    obtain ⟨b', hA', hl, d0, d1, d2, d3, df⟩ := h.p j hj
    injection hA' with hA'
    injection hA' with hA'
    subst hA'
    have e0 : w.cell? ⟨bA, k * 4, none⟩ = some (.int .i64 (st.P k).s) := c0
    have e1 := cell_rewr e0 c1
    exact ⟨bA, rfl, hl, cell_rewr e1 (cell_rewr e0 d0), cell_rewr e1 (cell_rewr e0 d1), cell_rewr e1 (cell_rewr e0 d2), cell_rewr e1 (cell_rewr e0 d3), fun i => fro_set_of _ (fro_set_of _ (df i))⟩
  refine ⟨h.bl, cell_same hO h.s0, cell_same hO h.s1, cell_same hO h.s2, h1.more k q f hk, fun j hj => ?_, h.pc, h.gc, fun b hA hn => ?_⟩
  · obtain ⟨b, hA, hl, d0, d1, df⟩ := h.g j hj
    have hs := putPk_heap (w := w) (k := k) (x := st.P k) (q := q) (f := f) (Ne.symm (hne.2 b hA (by have : j < st.m := hj; omega)))
    exact ⟨b, hA, hl, cell_same hs d0, cell_same hs d1, fun i => fro_same hs (df i)⟩
  · injection hA with hA
    injection hA with hA
    subst hA
    exact hne
theorem RowsOwn.later {w w' : World} {lo bO c c2 : Nat} {A A2 : Option Addr} {st : St} (h : RowsOwn w lo bO A c A2 c2 st) (hb : Below w.heap.size w w') : RowsOwn w' lo bO A c A2 c2 st :=
  ⟨h.bl, cell_below_of hb h.s0, cell_below_of hb h.s1, cell_below_of hb h.s2, h.p.later hb, h.g.later hb, h.pc, h.gc, h.np⟩
end Go.Proofs.Ytegmomappbehcaa
