/- Plain types of package bin; their rows in memory. (Written by gen_rows.py.) -/
import Derived.Test.YtnnikeolgknfoaaGreatGa
set_option linter.unusedSimpArgs false
set_option linter.unusedVariables false
namespace Go.Proofs.YtnnikeolgknfoaaGreat
open Go.RowKit Go.Shelf

/-- a bin: what it gets on each kind of day, and since when -/
structure Bn where
  lo : Nat → Int
  hi : Nat → Int
  s : Int
/-- a weighing -/
structure Wg where
  f : Int
  t : Int
  p : Int
  e : Int
  deriving DecidableEq
/-- a fact -/
structure Fc where
  w : Bool
  i : Int
  m : Bool
  deriving DecidableEq
/-- a span -/
structure Sp where
  a : Int
  b : Int
  deriving DecidableEq
abbrev bnV (x : Bn) : Value := .agg #[.int .i64 (x.lo 0), .int .i64 (x.hi 0), .int .i64 (x.lo 1), .int .i64 (x.hi 1), .int .i64 (x.lo 2), .int .i64 (x.hi 2), .int .i64 (x.s)]
def bnC (x : Bn) : List Value := [.int .i64 (x.lo 0), .int .i64 (x.hi 0), .int .i64 (x.lo 1), .int .i64 (x.hi 1), .int .i64 (x.lo 2), .int .i64 (x.hi 2), .int .i64 (x.s)]
theorem bnC_len (x : Bn) : (bnC x).length = 7 := rfl
theorem bnC_one (x : Bn) : ∀ v ∈ bnC x, v.oneCell' = true := by
  intro v hv
  simp only [bnC, List.mem_cons, List.not_mem_nil, or_false] at hv
  rcases hv with rfl | rfl | rfl | rfl | rfl | rfl | rfl <;> rfl
def BnRow (w : World) (B : Nat) (A : Option Addr) (n : Nat) (P : Nat → Bn) : Prop :=
  ∀ k, k < n → ∃ b o, A = some ⟨b, o, none⟩ ∧ b < B ∧ w.cell? ⟨b, o + k * 7, none⟩ = some (.int .i64 ((P k).lo 0)) ∧ w.cell? ⟨b, o + k * 7 + 1, none⟩ = some (.int .i64 ((P k).hi 0)) ∧ w.cell? ⟨b, o + k * 7 + 2, none⟩ = some (.int .i64 ((P k).lo 1)) ∧ w.cell? ⟨b, o + k * 7 + 3, none⟩ = some (.int .i64 ((P k).hi 1)) ∧ w.cell? ⟨b, o + k * 7 + 4, none⟩ = some (.int .i64 ((P k).lo 2)) ∧ w.cell? ⟨b, o + k * 7 + 5, none⟩ = some (.int .i64 ((P k).hi 2)) ∧ w.cell? ⟨b, o + k * 7 + 6, none⟩ = some (.int .i64 ((P k).s))
theorem BnRow.below {w w' : World} {B : Nat} {A : Option Addr} {n : Nat} {P : Nat → Bn} (h : BnRow w B A n P) (hb : Below B w w') : BnRow w' B A n P := fun k hk => by
  obtain ⟨b, o, hA, hB, c0, c1, c2, c3, c4, c5, c6⟩ := h k hk
  exact ⟨b, o, hA, hB, (hb.cell (p := ⟨b, _, none⟩) hB).trans c0, (hb.cell (p := ⟨b, _, none⟩) hB).trans c1, (hb.cell (p := ⟨b, _, none⟩) hB).trans c2, (hb.cell (p := ⟨b, _, none⟩) hB).trans c3, (hb.cell (p := ⟨b, _, none⟩) hB).trans c4, (hb.cell (p := ⟨b, _, none⟩) hB).trans c5, (hb.cell (p := ⟨b, _, none⟩) hB).trans c6⟩
theorem BnRow.mono {w : World} {B B' : Nat} {A : Option Addr} {n : Nat} {P : Nat → Bn} (h : BnRow w B A n P) (hb : B ≤ B') : BnRow w B' A n P := fun k hk => by
  obtain ⟨b, o, hA, hB, c⟩ := h k hk
  exact ⟨b, o, hA, Nat.lt_of_lt_of_le hB hb, c⟩
theorem BnRow.none {w : World} {B n : Nat} {A : Option Addr} {P : Nat → Bn} (h : BnRow w B A n P) : A = none → n = 0 := fun e => by
  cases n with
  | zero => rfl
  | succ n => obtain ⟨b, o, hA, _⟩ := h 0 (by omega); rw [e] at hA; cases hA
/-- such a row of one's own, from block lo on -/
def OwnBn (w : World) (lo : Nat) (A : Option Addr) (n : Nat) (P : Nat → Bn) : Prop :=
  ∀ k, k < n → ∃ b, A = some ⟨b, 0, none⟩ ∧ lo ≤ b ∧ w.cell? ⟨b, k * 7, none⟩ = some (.int .i64 ((P k).lo 0)) ∧ w.cell? ⟨b, k * 7 + 1, none⟩ = some (.int .i64 ((P k).hi 0)) ∧ w.cell? ⟨b, k * 7 + 2, none⟩ = some (.int .i64 ((P k).lo 1)) ∧ w.cell? ⟨b, k * 7 + 3, none⟩ = some (.int .i64 ((P k).hi 1)) ∧ w.cell? ⟨b, k * 7 + 4, none⟩ = some (.int .i64 ((P k).lo 2)) ∧ w.cell? ⟨b, k * 7 + 5, none⟩ = some (.int .i64 ((P k).hi 2)) ∧ w.cell? ⟨b, k * 7 + 6, none⟩ = some (.int .i64 ((P k).s)) ∧ ∀ i, w.frozen? ⟨b, i, none⟩ = false
theorem OwnBn.row {w : World} {lo n : Nat} {A : Option Addr} {P : Nat → Bn} (h : OwnBn w lo A n P) : BnRow w w.heap.size A n P := fun k hk => by
  obtain ⟨b, hA, _, c0, c1, c2, c3, c4, c5, c6, _⟩ := h k hk
  exact ⟨b, 0, hA, World.block_lt_of_cell? w _ c0, by rw [Nat.zero_add]; exact c0, by rw [Nat.zero_add]; exact c1, by rw [Nat.zero_add]; exact c2, by rw [Nat.zero_add]; exact c3, by rw [Nat.zero_add]; exact c4, by rw [Nat.zero_add]; exact c5, by rw [Nat.zero_add]; exact c6⟩
theorem OwnBn.keep {w w' : World} {lo n : Nat} {A : Option Addr} {P : Nat → Bn} (h : OwnBn w lo A n P) (hk : ∀ b, lo ≤ b → b < w.heap.size → w'.heap[b]? = w.heap[b]?) : OwnBn w' lo A n P := fun k hk' => by
  obtain ⟨b, hA, hl, c0, c1, c2, c3, c4, c5, c6, hf⟩ := h k hk'
  have hs := hk b hl (World.block_lt_of_cell? w _ c0)
  exact ⟨b, hA, hl, cell_same hs c0, cell_same hs c1, cell_same hs c2, cell_same hs c3, cell_same hs c4, cell_same hs c5, cell_same hs c6, fun i => fro_same hs (hf i)⟩
theorem OwnBn.later {w w' : World} {lo n : Nat} {A : Option Addr} {P : Nat → Bn} (h : OwnBn w lo A n P) (hb : Below w.heap.size w w') : OwnBn w' lo A n P := h.keep (fun b _ hl => hb.block b hl)
theorem OwnBn.low {w : World} {lo lo' n : Nat} {A : Option Addr} {P : Nat → Bn} (h : OwnBn w lo A n P) (hl : lo' ≤ lo) : OwnBn w lo' A n P := fun k hk => by
  obtain ⟨b, hA, h1, h2⟩ := h k hk
  exact ⟨b, hA, Nat.le_trans hl h1, h2⟩
theorem OwnBn.of {w : World} {base n : Nat} {v : Value} {P : Nat → Bn} (h : w.ownsRow base 119 7 v n (rowC bnC P n)) : ∃ A c, v = .slice A n c ∧ OwnBn w base A n P ∧ n ≤ c := by
  rcases h.2 with ⟨rfl, h0⟩ | ⟨g, cap, cur, rfl, hb, hg, hc, _⟩
  · exact ⟨none, 0, by rw [h0], fun k hk => by omega, by omega⟩
  · refine ⟨some ⟨g, 0, none⟩, cap, rfl, fun k hk => ?_, hc⟩
    have key : ∀ j v, j < 7 → (bnC (P k))[j]? = some v → w.cell? ⟨g, k * 7 + j, none⟩ = some v := fun j v hj hv => by
      have h1 := h.cells (g := g) rfl (k * 7 + j) v (by rw [rowC_get bnC_len P n k j hk hj]; exact hv)
      rw [add_at] at h1
      exact h1
    exact ⟨g, rfl, hb, key 0 _ (by omega) rfl, key 1 _ (by omega) rfl, key 2 _ (by omega) rfl, key 3 _ (by omega) rfl, key 4 _ (by omega) rfl, key 5 _ (by omega) rfl, key 6 _ (by omega) rfl, fun i => frozen_of_row _ _ _ _ _ hg⟩
theorem BnRow.atA {w : World} {B n : Nat} {P : Nat → Bn} {a : Addr} (h : BnRow w B (some a) n P) {j : Nat} {v : Value} (hj : (rowC bnC P n)[j]? = some v) : w.cell? (a.add j) = some v := by
  have hl : j < n * 7 := by have := (List.getElem?_eq_some_iff.1 hj).1; rwa [rowC_len bnC_len] at this
  obtain ⟨k, q, hk, hq, rfl⟩ : ∃ k q, k < n ∧ q < 7 ∧ j = k * 7 + q := ⟨j / 7, j % 7, by omega, by omega, by omega⟩
  rw [rowC_get bnC_len P n k q hk hq] at hj
  obtain ⟨b, o, hA, _, c0, c1, c2, c3, c4, c5, c6⟩ := h k hk
  injection hA with hA
  subst hA
  rw [Addr.add_lit]
  have hq' : q = 0 ∨ q = 1 ∨ q = 2 ∨ q = 3 ∨ q = 4 ∨ q = 5 ∨ q = 6 := by omega
  rcases hq' with rfl | rfl | rfl | rfl | rfl | rfl | rfl
  · rw [← Option.some.inj hj]; exact (by rw [Nat.add_zero]; exact c0)
  · rw [← Option.some.inj hj]; exact (by rw [← Nat.add_assoc]; exact c1)
  · rw [← Option.some.inj hj]; exact (by rw [← Nat.add_assoc]; exact c2)
  · rw [← Option.some.inj hj]; exact (by rw [← Nat.add_assoc]; exact c3)
  · rw [← Option.some.inj hj]; exact (by rw [← Nat.add_assoc]; exact c4)
  · rw [← Option.some.inj hj]; exact (by rw [← Nat.add_assoc]; exact c5)
  · rw [← Option.some.inj hj]; exact (by rw [← Nat.add_assoc]; exact c6)
theorem infoBn : (Tryz.prog.info? 119).map (fun i => (i.zero, i.size, i.bytes)) = some (some (.agg #[.int .i64 0, .int .i64 0, .int .i64 0, .int .i64 0, .int .i64 0, .int .i64 0, .int .i64 0]), 7, 56) := by kernel_rfl
theorem bns_under : Tryz.prog.underlying 22 = some (.slice 119) := by kernel_rfl
abbrev wgV (x : Wg) : Value := .agg #[.int .i64 (x.f), .int .i64 (x.t), .int .i64 (x.p), .int .i64 (x.e)]
def wgC (x : Wg) : List Value := [.int .i64 (x.f), .int .i64 (x.t), .int .i64 (x.p), .int .i64 (x.e)]
theorem wgC_len (x : Wg) : (wgC x).length = 4 := rfl
theorem wgC_one (x : Wg) : ∀ v ∈ wgC x, v.oneCell' = true := by
  intro v hv
  simp only [wgC, List.mem_cons, List.not_mem_nil, or_false] at hv
  rcases hv with rfl | rfl | rfl | rfl <;> rfl
def WgRow (w : World) (B : Nat) (A : Option Addr) (n : Nat) (P : Nat → Wg) : Prop :=
  ∀ k, k < n → ∃ b o, A = some ⟨b, o, none⟩ ∧ b < B ∧ w.cell? ⟨b, o + k * 4, none⟩ = some (.int .i64 ((P k).f)) ∧ w.cell? ⟨b, o + k * 4 + 1, none⟩ = some (.int .i64 ((P k).t)) ∧ w.cell? ⟨b, o + k * 4 + 2, none⟩ = some (.int .i64 ((P k).p)) ∧ w.cell? ⟨b, o + k * 4 + 3, none⟩ = some (.int .i64 ((P k).e))
theorem WgRow.below {w w' : World} {B : Nat} {A : Option Addr} {n : Nat} {P : Nat → Wg} (h : WgRow w B A n P) (hb : Below B w w') : WgRow w' B A n P := fun k hk => by
  obtain ⟨b, o, hA, hB, c0, c1, c2, c3⟩ := h k hk
  exact ⟨b, o, hA, hB, (hb.cell (p := ⟨b, _, none⟩) hB).trans c0, (hb.cell (p := ⟨b, _, none⟩) hB).trans c1, (hb.cell (p := ⟨b, _, none⟩) hB).trans c2, (hb.cell (p := ⟨b, _, none⟩) hB).trans c3⟩
theorem WgRow.mono {w : World} {B B' : Nat} {A : Option Addr} {n : Nat} {P : Nat → Wg} (h : WgRow w B A n P) (hb : B ≤ B') : WgRow w B' A n P := fun k hk => by
  obtain ⟨b, o, hA, hB, c⟩ := h k hk
  exact ⟨b, o, hA, Nat.lt_of_lt_of_le hB hb, c⟩
theorem WgRow.none {w : World} {B n : Nat} {A : Option Addr} {P : Nat → Wg} (h : WgRow w B A n P) : A = none → n = 0 := fun e => by
  cases n with
  | zero => rfl
  | succ n => obtain ⟨b, o, hA, _⟩ := h 0 (by omega); rw [e] at hA; cases hA
/-- such a row of one's own, from block lo on -/
def OwnWg (w : World) (lo : Nat) (A : Option Addr) (n : Nat) (P : Nat → Wg) : Prop :=
  ∀ k, k < n → ∃ b, A = some ⟨b, 0, none⟩ ∧ lo ≤ b ∧ w.cell? ⟨b, k * 4, none⟩ = some (.int .i64 ((P k).f)) ∧ w.cell? ⟨b, k * 4 + 1, none⟩ = some (.int .i64 ((P k).t)) ∧ w.cell? ⟨b, k * 4 + 2, none⟩ = some (.int .i64 ((P k).p)) ∧ w.cell? ⟨b, k * 4 + 3, none⟩ = some (.int .i64 ((P k).e)) ∧ ∀ i, w.frozen? ⟨b, i, none⟩ = false
theorem OwnWg.row {w : World} {lo n : Nat} {A : Option Addr} {P : Nat → Wg} (h : OwnWg w lo A n P) : WgRow w w.heap.size A n P := fun k hk => by
  obtain ⟨b, hA, _, c0, c1, c2, c3, _⟩ := h k hk
  exact ⟨b, 0, hA, World.block_lt_of_cell? w _ c0, by rw [Nat.zero_add]; exact c0, by rw [Nat.zero_add]; exact c1, by rw [Nat.zero_add]; exact c2, by rw [Nat.zero_add]; exact c3⟩
theorem OwnWg.keep {w w' : World} {lo n : Nat} {A : Option Addr} {P : Nat → Wg} (h : OwnWg w lo A n P) (hk : ∀ b, lo ≤ b → b < w.heap.size → w'.heap[b]? = w.heap[b]?) : OwnWg w' lo A n P := fun k hk' => by
  obtain ⟨b, hA, hl, c0, c1, c2, c3, hf⟩ := h k hk'
  have hs := hk b hl (World.block_lt_of_cell? w _ c0)
  exact ⟨b, hA, hl, cell_same hs c0, cell_same hs c1, cell_same hs c2, cell_same hs c3, fun i => fro_same hs (hf i)⟩
theorem OwnWg.later {w w' : World} {lo n : Nat} {A : Option Addr} {P : Nat → Wg} (h : OwnWg w lo A n P) (hb : Below w.heap.size w w') : OwnWg w' lo A n P := h.keep (fun b _ hl => hb.block b hl)
theorem OwnWg.low {w : World} {lo lo' n : Nat} {A : Option Addr} {P : Nat → Wg} (h : OwnWg w lo A n P) (hl : lo' ≤ lo) : OwnWg w lo' A n P := fun k hk => by
  obtain ⟨b, hA, h1, h2⟩ := h k hk
  exact ⟨b, hA, Nat.le_trans hl h1, h2⟩
theorem OwnWg.of {w : World} {base n : Nat} {v : Value} {P : Nat → Wg} (h : w.ownsRow base 101 4 v n (rowC wgC P n)) : ∃ A c, v = .slice A n c ∧ OwnWg w base A n P ∧ n ≤ c := by
  rcases h.2 with ⟨rfl, h0⟩ | ⟨g, cap, cur, rfl, hb, hg, hc, _⟩
  · exact ⟨none, 0, by rw [h0], fun k hk => by omega, by omega⟩
  · refine ⟨some ⟨g, 0, none⟩, cap, rfl, fun k hk => ?_, hc⟩
    have key : ∀ j v, j < 4 → (wgC (P k))[j]? = some v → w.cell? ⟨g, k * 4 + j, none⟩ = some v := fun j v hj hv => by
      have h1 := h.cells (g := g) rfl (k * 4 + j) v (by rw [rowC_get wgC_len P n k j hk hj]; exact hv)
      rw [add_at] at h1
      exact h1
    exact ⟨g, rfl, hb, key 0 _ (by omega) rfl, key 1 _ (by omega) rfl, key 2 _ (by omega) rfl, key 3 _ (by omega) rfl, fun i => frozen_of_row _ _ _ _ _ hg⟩
theorem WgRow.atA {w : World} {B n : Nat} {P : Nat → Wg} {a : Addr} (h : WgRow w B (some a) n P) {j : Nat} {v : Value} (hj : (rowC wgC P n)[j]? = some v) : w.cell? (a.add j) = some v := by
  have hl : j < n * 4 := by have := (List.getElem?_eq_some_iff.1 hj).1; rwa [rowC_len wgC_len] at this
  obtain ⟨k, q, hk, hq, rfl⟩ : ∃ k q, k < n ∧ q < 4 ∧ j = k * 4 + q := ⟨j / 4, j % 4, by omega, by omega, by omega⟩
  rw [rowC_get wgC_len P n k q hk hq] at hj
  obtain ⟨b, o, hA, _, c0, c1, c2, c3⟩ := h k hk
  injection hA with hA
  subst hA
  rw [Addr.add_lit]
  have hq' : q = 0 ∨ q = 1 ∨ q = 2 ∨ q = 3 := by omega
  rcases hq' with rfl | rfl | rfl | rfl
  · rw [← Option.some.inj hj]; exact (by rw [Nat.add_zero]; exact c0)
  · rw [← Option.some.inj hj]; exact (by rw [← Nat.add_assoc]; exact c1)
  · rw [← Option.some.inj hj]; exact (by rw [← Nat.add_assoc]; exact c2)
  · rw [← Option.some.inj hj]; exact (by rw [← Nat.add_assoc]; exact c3)
theorem infoWg : (Tryz.prog.info? 101).map (fun i => (i.zero, i.size, i.bytes)) = some (some (.agg #[.int .i64 0, .int .i64 0, .int .i64 0, .int .i64 0]), 4, 32) := by kernel_rfl
theorem wgs_under : Tryz.prog.underlying 24 = some (.slice 101) := by kernel_rfl
abbrev fcV (x : Fc) : Value := .agg #[.bool (x.w), .int .i64 (x.i), .bool (x.m)]
def fcC (x : Fc) : List Value := [.bool (x.w), .int .i64 (x.i), .bool (x.m)]
theorem fcC_len (x : Fc) : (fcC x).length = 3 := rfl
theorem fcC_one (x : Fc) : ∀ v ∈ fcC x, v.oneCell' = true := by
  intro v hv
  simp only [fcC, List.mem_cons, List.not_mem_nil, or_false] at hv
  rcases hv with rfl | rfl | rfl <;> rfl
def FcRow (w : World) (B : Nat) (A : Option Addr) (n : Nat) (P : Nat → Fc) : Prop :=
  ∀ k, k < n → ∃ b o, A = some ⟨b, o, none⟩ ∧ b < B ∧ w.cell? ⟨b, o + k * 3, none⟩ = some (.bool ((P k).w)) ∧ w.cell? ⟨b, o + k * 3 + 1, none⟩ = some (.int .i64 ((P k).i)) ∧ w.cell? ⟨b, o + k * 3 + 2, none⟩ = some (.bool ((P k).m))
theorem FcRow.below {w w' : World} {B : Nat} {A : Option Addr} {n : Nat} {P : Nat → Fc} (h : FcRow w B A n P) (hb : Below B w w') : FcRow w' B A n P := fun k hk => by
  obtain ⟨b, o, hA, hB, c0, c1, c2⟩ := h k hk
  exact ⟨b, o, hA, hB, (hb.cell (p := ⟨b, _, none⟩) hB).trans c0, (hb.cell (p := ⟨b, _, none⟩) hB).trans c1, (hb.cell (p := ⟨b, _, none⟩) hB).trans c2⟩
theorem FcRow.mono {w : World} {B B' : Nat} {A : Option Addr} {n : Nat} {P : Nat → Fc} (h : FcRow w B A n P) (hb : B ≤ B') : FcRow w B' A n P := fun k hk => by
  obtain ⟨b, o, hA, hB, c⟩ := h k hk
  exact ⟨b, o, hA, Nat.lt_of_lt_of_le hB hb, c⟩
theorem FcRow.none {w : World} {B n : Nat} {A : Option Addr} {P : Nat → Fc} (h : FcRow w B A n P) : A = none → n = 0 := fun e => by
  cases n with
  | zero => rfl
  | succ n => obtain ⟨b, o, hA, _⟩ := h 0 (by omega); rw [e] at hA; cases hA
/-- such a row of one's own, from block lo on -/
def OwnFc (w : World) (lo : Nat) (A : Option Addr) (n : Nat) (P : Nat → Fc) : Prop :=
  ∀ k, k < n → ∃ b, A = some ⟨b, 0, none⟩ ∧ lo ≤ b ∧ w.cell? ⟨b, k * 3, none⟩ = some (.bool ((P k).w)) ∧ w.cell? ⟨b, k * 3 + 1, none⟩ = some (.int .i64 ((P k).i)) ∧ w.cell? ⟨b, k * 3 + 2, none⟩ = some (.bool ((P k).m)) ∧ ∀ i, w.frozen? ⟨b, i, none⟩ = false
theorem OwnFc.row {w : World} {lo n : Nat} {A : Option Addr} {P : Nat → Fc} (h : OwnFc w lo A n P) : FcRow w w.heap.size A n P := fun k hk => by
  obtain ⟨b, hA, _, c0, c1, c2, _⟩ := h k hk
  exact ⟨b, 0, hA, World.block_lt_of_cell? w _ c0, by rw [Nat.zero_add]; exact c0, by rw [Nat.zero_add]; exact c1, by rw [Nat.zero_add]; exact c2⟩
theorem OwnFc.keep {w w' : World} {lo n : Nat} {A : Option Addr} {P : Nat → Fc} (h : OwnFc w lo A n P) (hk : ∀ b, lo ≤ b → b < w.heap.size → w'.heap[b]? = w.heap[b]?) : OwnFc w' lo A n P := fun k hk' => by
  obtain ⟨b, hA, hl, c0, c1, c2, hf⟩ := h k hk'
  have hs := hk b hl (World.block_lt_of_cell? w _ c0)
  exact ⟨b, hA, hl, cell_same hs c0, cell_same hs c1, cell_same hs c2, fun i => fro_same hs (hf i)⟩
theorem OwnFc.later {w w' : World} {lo n : Nat} {A : Option Addr} {P : Nat → Fc} (h : OwnFc w lo A n P) (hb : Below w.heap.size w w') : OwnFc w' lo A n P := h.keep (fun b _ hl => hb.block b hl)
theorem OwnFc.low {w : World} {lo lo' n : Nat} {A : Option Addr} {P : Nat → Fc} (h : OwnFc w lo A n P) (hl : lo' ≤ lo) : OwnFc w lo' A n P := fun k hk => by
  obtain ⟨b, hA, h1, h2⟩ := h k hk
  exact ⟨b, hA, Nat.le_trans hl h1, h2⟩
theorem OwnFc.of {w : World} {base n : Nat} {v : Value} {P : Nat → Fc} (h : w.ownsRow base 76 3 v n (rowC fcC P n)) : ∃ A c, v = .slice A n c ∧ OwnFc w base A n P ∧ n ≤ c := by
  rcases h.2 with ⟨rfl, h0⟩ | ⟨g, cap, cur, rfl, hb, hg, hc, _⟩
  · exact ⟨none, 0, by rw [h0], fun k hk => by omega, by omega⟩
  · refine ⟨some ⟨g, 0, none⟩, cap, rfl, fun k hk => ?_, hc⟩
    have key : ∀ j v, j < 3 → (fcC (P k))[j]? = some v → w.cell? ⟨g, k * 3 + j, none⟩ = some v := fun j v hj hv => by
      have h1 := h.cells (g := g) rfl (k * 3 + j) v (by rw [rowC_get fcC_len P n k j hk hj]; exact hv)
      rw [add_at] at h1
      exact h1
    exact ⟨g, rfl, hb, key 0 _ (by omega) rfl, key 1 _ (by omega) rfl, key 2 _ (by omega) rfl, fun i => frozen_of_row _ _ _ _ _ hg⟩
theorem FcRow.atA {w : World} {B n : Nat} {P : Nat → Fc} {a : Addr} (h : FcRow w B (some a) n P) {j : Nat} {v : Value} (hj : (rowC fcC P n)[j]? = some v) : w.cell? (a.add j) = some v := by
  have hl : j < n * 3 := by have := (List.getElem?_eq_some_iff.1 hj).1; rwa [rowC_len fcC_len] at this
  obtain ⟨k, q, hk, hq, rfl⟩ : ∃ k q, k < n ∧ q < 3 ∧ j = k * 3 + q := ⟨j / 3, j % 3, by omega, by omega, by omega⟩
  rw [rowC_get fcC_len P n k q hk hq] at hj
  obtain ⟨b, o, hA, _, c0, c1, c2⟩ := h k hk
  injection hA with hA
  subst hA
  rw [Addr.add_lit]
  have hq' : q = 0 ∨ q = 1 ∨ q = 2 := by omega
  rcases hq' with rfl | rfl | rfl
  · rw [← Option.some.inj hj]; exact (by rw [Nat.add_zero]; exact c0)
  · rw [← Option.some.inj hj]; exact (by rw [← Nat.add_assoc]; exact c1)
  · rw [← Option.some.inj hj]; exact (by rw [← Nat.add_assoc]; exact c2)
theorem infoFc : (Tryz.prog.info? 76).map (fun i => (i.zero, i.size, i.bytes)) = some (some (.agg #[.bool false, .int .i64 0, .bool false]), 3, 24) := by kernel_rfl
theorem fcs_under : Tryz.prog.underlying 73 = some (.slice 76) := by kernel_rfl
abbrev spV (x : Sp) : Value := .agg #[.int .i64 (x.a), .int .i64 (x.b)]
def spC (x : Sp) : List Value := [.int .i64 (x.a), .int .i64 (x.b)]
theorem spC_len (x : Sp) : (spC x).length = 2 := rfl
theorem spC_one (x : Sp) : ∀ v ∈ spC x, v.oneCell' = true := by
  intro v hv
  simp only [spC, List.mem_cons, List.not_mem_nil, or_false] at hv
  rcases hv with rfl | rfl <;> rfl
def SpRow (w : World) (B : Nat) (A : Option Addr) (n : Nat) (P : Nat → Sp) : Prop :=
  ∀ k, k < n → ∃ b o, A = some ⟨b, o, none⟩ ∧ b < B ∧ w.cell? ⟨b, o + k * 2, none⟩ = some (.int .i64 ((P k).a)) ∧ w.cell? ⟨b, o + k * 2 + 1, none⟩ = some (.int .i64 ((P k).b))
theorem SpRow.below {w w' : World} {B : Nat} {A : Option Addr} {n : Nat} {P : Nat → Sp} (h : SpRow w B A n P) (hb : Below B w w') : SpRow w' B A n P := fun k hk => by
  obtain ⟨b, o, hA, hB, c0, c1⟩ := h k hk
  exact ⟨b, o, hA, hB, (hb.cell (p := ⟨b, _, none⟩) hB).trans c0, (hb.cell (p := ⟨b, _, none⟩) hB).trans c1⟩
theorem SpRow.mono {w : World} {B B' : Nat} {A : Option Addr} {n : Nat} {P : Nat → Sp} (h : SpRow w B A n P) (hb : B ≤ B') : SpRow w B' A n P := fun k hk => by
  obtain ⟨b, o, hA, hB, c⟩ := h k hk
  exact ⟨b, o, hA, Nat.lt_of_lt_of_le hB hb, c⟩
theorem SpRow.none {w : World} {B n : Nat} {A : Option Addr} {P : Nat → Sp} (h : SpRow w B A n P) : A = none → n = 0 := fun e => by
  cases n with
  | zero => rfl
  | succ n => obtain ⟨b, o, hA, _⟩ := h 0 (by omega); rw [e] at hA; cases hA
/-- such a row of one's own, from block lo on -/
def OwnSp (w : World) (lo : Nat) (A : Option Addr) (n : Nat) (P : Nat → Sp) : Prop :=
  ∀ k, k < n → ∃ b, A = some ⟨b, 0, none⟩ ∧ lo ≤ b ∧ w.cell? ⟨b, k * 2, none⟩ = some (.int .i64 ((P k).a)) ∧ w.cell? ⟨b, k * 2 + 1, none⟩ = some (.int .i64 ((P k).b)) ∧ ∀ i, w.frozen? ⟨b, i, none⟩ = false
theorem OwnSp.row {w : World} {lo n : Nat} {A : Option Addr} {P : Nat → Sp} (h : OwnSp w lo A n P) : SpRow w w.heap.size A n P := fun k hk => by
  obtain ⟨b, hA, _, c0, c1, _⟩ := h k hk
  exact ⟨b, 0, hA, World.block_lt_of_cell? w _ c0, by rw [Nat.zero_add]; exact c0, by rw [Nat.zero_add]; exact c1⟩
theorem OwnSp.keep {w w' : World} {lo n : Nat} {A : Option Addr} {P : Nat → Sp} (h : OwnSp w lo A n P) (hk : ∀ b, lo ≤ b → b < w.heap.size → w'.heap[b]? = w.heap[b]?) : OwnSp w' lo A n P := fun k hk' => by
  obtain ⟨b, hA, hl, c0, c1, hf⟩ := h k hk'
  have hs := hk b hl (World.block_lt_of_cell? w _ c0)
  exact ⟨b, hA, hl, cell_same hs c0, cell_same hs c1, fun i => fro_same hs (hf i)⟩
theorem OwnSp.later {w w' : World} {lo n : Nat} {A : Option Addr} {P : Nat → Sp} (h : OwnSp w lo A n P) (hb : Below w.heap.size w w') : OwnSp w' lo A n P := h.keep (fun b _ hl => hb.block b hl)
theorem OwnSp.low {w : World} {lo lo' n : Nat} {A : Option Addr} {P : Nat → Sp} (h : OwnSp w lo A n P) (hl : lo' ≤ lo) : OwnSp w lo' A n P := fun k hk => by
  obtain ⟨b, hA, h1, h2⟩ := h k hk
  exact ⟨b, hA, Nat.le_trans hl h1, h2⟩
theorem OwnSp.of {w : World} {base n : Nat} {v : Value} {P : Nat → Sp} (h : w.ownsRow base 49 2 v n (rowC spC P n)) : ∃ A c, v = .slice A n c ∧ OwnSp w base A n P ∧ n ≤ c := by
  rcases h.2 with ⟨rfl, h0⟩ | ⟨g, cap, cur, rfl, hb, hg, hc, _⟩
  · exact ⟨none, 0, by rw [h0], fun k hk => by omega, by omega⟩
  · refine ⟨some ⟨g, 0, none⟩, cap, rfl, fun k hk => ?_, hc⟩
    have key : ∀ j v, j < 2 → (spC (P k))[j]? = some v → w.cell? ⟨g, k * 2 + j, none⟩ = some v := fun j v hj hv => by
      have h1 := h.cells (g := g) rfl (k * 2 + j) v (by rw [rowC_get spC_len P n k j hk hj]; exact hv)
      rw [add_at] at h1
      exact h1
    exact ⟨g, rfl, hb, key 0 _ (by omega) rfl, key 1 _ (by omega) rfl, fun i => frozen_of_row _ _ _ _ _ hg⟩
theorem SpRow.atA {w : World} {B n : Nat} {P : Nat → Sp} {a : Addr} (h : SpRow w B (some a) n P) {j : Nat} {v : Value} (hj : (rowC spC P n)[j]? = some v) : w.cell? (a.add j) = some v := by
  have hl : j < n * 2 := by have := (List.getElem?_eq_some_iff.1 hj).1; rwa [rowC_len spC_len] at this
  obtain ⟨k, q, hk, hq, rfl⟩ : ∃ k q, k < n ∧ q < 2 ∧ j = k * 2 + q := ⟨j / 2, j % 2, by omega, by omega, by omega⟩
  rw [rowC_get spC_len P n k q hk hq] at hj
  obtain ⟨b, o, hA, _, c0, c1⟩ := h k hk
  injection hA with hA
  subst hA
  rw [Addr.add_lit]
  have hq' : q = 0 ∨ q = 1 := by omega
  rcases hq' with rfl | rfl
  · rw [← Option.some.inj hj]; exact (by rw [Nat.add_zero]; exact c0)
  · rw [← Option.some.inj hj]; exact (by rw [← Nat.add_assoc]; exact c1)
theorem infoSp : (Tryz.prog.info? 49).map (fun i => (i.zero, i.size, i.bytes)) = some (some (.agg #[.int .i64 0, .int .i64 0]), 2, 16) := by kernel_rfl
theorem sps_under : Tryz.prog.underlying 55 = some (.slice 49) := by kernel_rfl
theorem infoKd : (Tryz.prog.info? 52).map (fun i => (i.zero, i.size, i.bytes)) = some (some (.int .i64 0), 1, 8) := by kernel_rfl
theorem kds_under : Tryz.prog.underlying 23 = some (.slice 52) := by kernel_rfl
section
variable (a b c d e f g : Value) (w : World)
@[go_sem ↓] theorem fSpan0 : (Instr.field 49 (.agg #[a, b]) 0).run Tryz.prog w = .ok a w := by kernel_rfl
@[go_sem ↓] theorem fSpan1 : (Instr.field 49 (.agg #[a, b]) 1).run Tryz.prog w = .ok b w := by kernel_rfl
@[go_sem ↓] theorem fRatio0 : (Instr.field 44 (.agg #[a, b]) 0).run Tryz.prog w = .ok a w := by kernel_rfl
@[go_sem ↓] theorem fRatio1 : (Instr.field 44 (.agg #[a, b]) 1).run Tryz.prog w = .ok b w := by kernel_rfl
@[go_sem ↓] theorem fRow0 : (Instr.field 26 (.agg #[a, b, c]) 0).run Tryz.prog w = .ok a w := by kernel_rfl
@[go_sem ↓] theorem fRow1 : (Instr.field 26 (.agg #[a, b, c]) 1).run Tryz.prog w = .ok b w := by kernel_rfl
@[go_sem ↓] theorem fRow2 : (Instr.field 26 (.agg #[a, b, c]) 2).run Tryz.prog w = .ok c w := by kernel_rfl
@[go_sem ↓] theorem fWg0 : (Instr.field 101 (.agg #[a, b, c, d]) 0).run Tryz.prog w = .ok a w := by kernel_rfl
@[go_sem ↓] theorem fWg1 : (Instr.field 101 (.agg #[a, b, c, d]) 1).run Tryz.prog w = .ok b w := by kernel_rfl
@[go_sem ↓] theorem fWg2 : (Instr.field 101 (.agg #[a, b, c, d]) 2).run Tryz.prog w = .ok c w := by kernel_rfl
@[go_sem ↓] theorem fWg3 : (Instr.field 101 (.agg #[a, b, c, d]) 3).run Tryz.prog w = .ok d w := by kernel_rfl
@[go_sem ↓] theorem fFact0 : (Instr.field 76 (.agg #[a, b, c]) 0).run Tryz.prog w = .ok a w := by kernel_rfl
@[go_sem ↓] theorem fFact1 : (Instr.field 76 (.agg #[a, b, c]) 1).run Tryz.prog w = .ok b w := by kernel_rfl
@[go_sem ↓] theorem fFact2 : (Instr.field 76 (.agg #[a, b, c]) 2).run Tryz.prog w = .ok c w := by kernel_rfl
@[go_sem ↓] theorem fEnd0 : (Instr.field 144 (.agg #[a]) 0).run Tryz.prog w = .ok a w := by kernel_rfl
@[go_sem ↓] theorem fBn0 : (Instr.field 119 (.agg #[a, b, c, d, e, f, g]) 0).run Tryz.prog w = .ok (.agg #[a, b, c, d, e, f]) w := by kernel_rfl
@[go_sem ↓] theorem fBn1 : (Instr.field 119 (.agg #[a, b, c, d, e, f, g]) 1).run Tryz.prog w = .ok g w := by kernel_rfl
end
end Go.Proofs.YtnnikeolgknfoaaGreat
