/- What the texts of package bin stand on: worlds, rows, numbers. No function of the program's here. (Written by gen_ga.py out of the texts of lot/.) -/
import Derived.Test.YtnnikeolgknfoaaGreatProg
import Derived.Test.YtnnikeolgknfoaaGreatR
import Derived.WalkKit
import Derived.KernelRfl
import Derived.WalkSpells
import Derived.WalkLawsBesides
import Derived.Lib.Hide
import Derived.Deep.QuietTactic
import Derived.BigQuiet
import Derived.Deep.RegionHeld3
import Derived.Deep.RegionLaw
import Derived.Deep.RegionHeldLaw
import Derived.Deep.DrawnRows
import Derived.Deep.DeepCutAuto
import Derived.Deep.AppendLies
import Derived.Laws.EntriesVeiled
import Derived.Laws.AppendOwn
import Derived.Laws.AppendOwnNone
import Derived.Laws.MakeOwn
import Derived.Laws.CopyOwn
import Derived.Shelf.Abstract
import Derived.Shelf.RegionOpen
import Derived.OwnWalkIn
import Derived.TacticsInMore
import Derived.LoopNIn
import Derived.LoopIn
set_option linter.unusedSimpArgs false
set_option linter.unusedVariables false
namespace Go.Proofs.YtnnikeolgknfoaaGreat
open Go.RowKit Go.Shelf

/-- the sum of the first n numbers -/
def sumN (f : Nat → Int) : Nat → Int
  | 0 => 0
  | n + 1 => sumN f n + f n

theorem sumN_bd (f : Nat → Int) (n : Nat) (h : ∀ k, k < n → -1000000 ≤ f k ∧ f k ≤ 1000000) : -1000000 * (n : Int) ≤ sumN f n ∧ sumN f n ≤ 1000000 * (n : Int) := by
  induction n with
  | zero => simp [sumN]
  | succ n ih =>
    have h1 := ih (fun k hk => h k (by omega))
    have h2 := h n (by omega)
    simp only [sumN]
    omega
theorem sumN_bd2 (f : Nat → Int) (n : Nat) (c : Int) (h : ∀ k, k < n → 0 ≤ f k ∧ f k ≤ c) : 0 ≤ sumN f n ∧ sumN f n ≤ c * (n : Int) := by
  induction n with
  | zero => simp [sumN]
  | succ n ih =>
    have h1 := ih (fun k hk => h k (by omega))
    have h2 := h n (by omega)
    simp only [sumN]
    have e : c * ((n + 1 : Nat) : Int) = c * (n : Int) + c := by rw [Int.natCast_add, Int.mul_add]; simp
    rw [e]; omega
theorem sumN_bdh (f : Nat → Int) (n : Nat) (h : ∀ k, k < n → -100 ≤ f k ∧ f k ≤ 100) : -100 * (n : Int) ≤ sumN f n ∧ sumN f n ≤ 100 * (n : Int) := by
  induction n with
  | zero => simp [sumN]
  | succ n ih =>
    have h1 := ih (fun k hk => h k (by omega))
    have h2 := h n (by omega)
    simp only [sumN]
    omega
theorem sumN_congr {f g : Nat → Int} {n : Nat} (h : ∀ k, k < n → f k = g k) : sumN f n = sumN g n := by
  induction n with
  | zero => rfl
  | succ n ih => simp only [sumN]; rw [ih (fun k hk => h k (by omega)), h n (by omega)]
theorem sumN_le {f g : Nat → Int} {n : Nat} (h : ∀ k, k < n → f k ≤ g k) : sumN f n ≤ sumN g n := by
  induction n with
  | zero => exact Int.le_refl _
  | succ n ih => simp only [sumN]; have := ih (fun k hk => h k (by omega)); have := h n (by omega); omega
theorem sumN_add (f g : Nat → Int) (n : Nat) : sumN (fun k => f k + g k) n = sumN f n + sumN g n := by
  induction n with
  | zero => rfl
  | succ n ih => simp only [sumN]; omega
theorem sumN_zero {f : Nat → Int} {n : Nat} (h : ∀ k, k < n → f k = 0) : sumN f n = 0 := by
  induction n with
  | zero => rfl
  | succ n ih => simp only [sumN]; rw [ih (fun k hk => h k (by omega)), h n (by omega)]; rfl

theorem sumN_cons (f : Nat → Int) : ∀ n, sumN f (n + 1) = f 0 + sumN (fun k => f (k + 1)) n
  | 0 => by simp [sumN]
  | n + 1 => by
    show sumN f (n + 1) + f (n + 1) = f 0 + (sumN (fun k => f (k + 1)) n + f (n + 1))
    rw [sumN_cons f n]
    omega
theorem sumN_nn {f : Nat → Int} {n : Nat} (h : ∀ k, k < n → 0 ≤ f k) : 0 ≤ sumN f n := by
  have := sumN_le (f := fun _ => 0) (g := f) (n := n) h
  rw [sumN_zero (fun k _ => rfl)] at this
  exact this
theorem ret_int {k : IntKind} {a b : Int} (h : a = b) : Ending.returned (.int k a) = .returned (.int k b) := by rw [h]

theorem below_drewN {B : Nat} {a w : World} (h : Below B a w) (n : Nat) : Below B a (w.drewN n) := ⟨h.os, h.tape, h.output, h.size, h.block⟩
theorem Lv {B : Nat} {a b c : World} (k : Below b.heap.size b c) (hB : B ≤ b.heap.size) (h : Below B a b) : Below B a c := h.trans (k.mono hB)
theorem Lc {B : Nat} {a w : World} (hB : B ≤ w.heap.size) (h : Below B a w) (o : Obj) : Below B a (w.alloc o) := h.alloc hB o
theorem Ls {B : Nat} {a w : World} {p : Addr} (hp : B ≤ p.block) (h : Below B a w) (u : Value) : Below B a (w.setCell p u) := h.setCell hp u
theorem bcell {W w1 : World} (hb : Below W.heap.size W w1) : (∀ a, (W.cell? a).isSome = true → w1.cell? a = W.cell? a) ∧ (∀ a, (W.cell? a).isSome = true → w1.frozen? a = W.frozen? a) :=
  ⟨fun a h => by obtain ⟨u, hu⟩ := Option.isSome_iff_exists.1 h; exact hb.cell (World.block_lt_of_cell? W a hu),
   fun a h => by obtain ⟨u, hu⟩ := Option.isSome_iff_exists.1 h; exact hb.frozen (World.block_lt_of_cell? W a hu)⟩
@[go_sem] theorem cell_alloc_some (w : World) (a : Addr) (o : Obj) (h : (w.cell? a).isSome = true) : (w.alloc o).cell? a = w.cell? a := World.cell?_alloc_some w a o h
@[go_sem] theorem frozen_alloc_some (w : World) (a : Addr) (o : Obj) (h : (w.cell? a).isSome = true) : (w.alloc o).frozen? a = w.frozen? a := by
  obtain ⟨u, hu⟩ := Option.isSome_iff_exists.1 h
  exact World.frozen?_alloc_old w o a (Nat.ne_of_lt (World.block_lt_of_cell? w a hu))

/-! ### One step back through a world, for a cell that is there, or that is not frozen -/
section
variable {w w1 : World} {a : Addr} {v : Value}
theorem Kd (h : w.cell? a = some v) : w.drew.cell? a = some v := h
theorem Kn {n : Nat} (h : w.cell? a = some v) : (w.drewN n).cell? a = some v := h
theorem Ka (o : Obj) (h : w.cell? a = some v) : (w.alloc o).cell? a = some v := (World.cell?_alloc_some w a o (by rw [h]; rfl)).trans h
theorem Kw {cs : Array Value} {t : TypeId} {n i : Nat} (hn : n = w.heap.size) (h : cs[i]? = some v) : (w.alloc (.cells cs t)).cell? ⟨n, i, none⟩ = some v := by subst hn; simp [h]
theorem Fw {cs : Array Value} {t : TypeId} {n i : Nat} (hn : n = w.heap.size) : (w.alloc (.cells cs t)).frozen? ⟨n, i, none⟩ = false := by subst hn; exact World.frozen?_alloc_new w cs t i
theorem Kb (hb : Below w.heap.size w w1) (h : w.cell? a = some v) : w1.cell? a = some v := ((bcell hb).1 a (by rw [h]; rfl)).trans h
theorem Ks {p : Addr} (u : Value) (hne : p.block ≠ a.block) (h : w.cell? a = some v) : (w.setCell p u).cell? a = some v := (World.cell?_setCell_far w p a u hne).trans h
theorem Fd (h : w.frozen? a = false) : w.drew.frozen? a = false := h
theorem Fn {n : Nat} (h : w.frozen? a = false) : (w.drewN n).frozen? a = false := h
theorem Fa (o : Obj) (hl : a.block < w.heap.size) (h : w.frozen? a = false) : (w.alloc o).frozen? a = false := (World.frozen?_alloc_old w o a (Nat.ne_of_lt hl)).trans h
theorem Fb (hb : Below w.heap.size w w1) (hl : a.block < w.heap.size) (h : w.frozen? a = false) : w1.frozen? a = false := (hb.frozen hl).trans h
theorem Fs {p : Addr} (u : Value) (h : w.frozen? a = false) : (w.setCell p u).frozen? a = false := by rw [World.frozen?_setCell]; exact h
end

section
variable (P : Program) (w : World) (ats : Array TypeId) (ty : TypeId) (k k' : IntKind) (a b : Int)
/-- min and max of two integers stay under their names -/
@[go_sem ↓] theorem run_min_int : (Builtin.min_ ats ty #[.int k a, .int k' b]).run P w = .ok (.int k (min a b)) w := by
  have e : (if b < a then b else a) = min a b := by split <;> omega
  simp [Builtin.min_, Builtin.min2, e]
@[go_sem ↓] theorem run_max_int : (Builtin.max_ ats ty #[.int k a, .int k' b]).run P w = .ok (.int k (max a b)) w := by
  have e : (if a < b then b else a) = max a b := by split <;> omega
  simp [Builtin.max_, Builtin.max2, e]
end

/-- a number from one to another -/
def inB (n lo hi : Int) : Bool := decide (lo ≤ n) && decide (n ≤ hi)
/-- something is so of the first n -/
def allN (f : Nat → Bool) : Nat → Bool
  | 0 => true
  | n + 1 => allN f n && f n
theorem allN_iff {f : Nat → Bool} : ∀ {n : Nat}, allN f n = true ↔ ∀ k, k < n → f k = true
  | 0 => by simp [allN]
  | n + 1 => by
    simp only [allN, Bool.and_eq_true, allN_iff (n := n)]
    constructor
    · intro h k hk
      rcases Nat.lt_or_ge k n with h1 | h1
      · exact h.1 k h1
      · have : k = n := by omega
        subst this; exact h.2
    · intro h; exact ⟨fun k hk => h k (by omega), h n (by omega)⟩
/-- the first index from i on, of r, at which something is so; -1 if there is none -/
def idxFrom (f : Nat → Bool) : Nat → Nat → Int
  | 0, _ => -1
  | r + 1, i => if f i then (i : Int) else idxFrom f r (i + 1)
theorem idx_yes {f : Nat → Bool} {n k : Nat} (hk : k < n) (h0 : idxFrom f n 0 = idxFrom f (n - k) k) (h : f k = true) : idxFrom f n 0 = (k : Int) := by
  rw [h0, show n - k = (n - k - 1) + 1 from by omega, idxFrom, if_pos h]
theorem idx_no {f : Nat → Bool} {n k : Nat} (hk : k < n) (h0 : idxFrom f n 0 = idxFrom f (n - k) k) (h : f k = false) : idxFrom f n 0 = idxFrom f (n - (k + 1)) (k + 1) := by
  rw [h0, show n - k = (n - (k + 1)) + 1 from by omega, idxFrom, if_neg (by simp [h])]
theorem idx_end {f : Nat → Bool} {n : Nat} (h0 : idxFrom f n 0 = idxFrom f (n - n) n) : idxFrom f n 0 = -1 := by rw [h0, Nat.sub_self]; rfl
theorem idx_bd (f : Nat → Bool) : ∀ r i, -1 ≤ idxFrom f r i
  | 0, _ => by simp [idxFrom]
  | r + 1, i => by unfold idxFrom; split; omega; exact idx_bd f r (i + 1)
theorem idx_all (f : Nat → Bool) : ∀ r i, (decide (0 ≤ idxFrom f r i) = false) ↔ ∀ k, k < r → f (i + k) = false
  | 0, i => by simp [idxFrom]
  | r + 1, i => by
    unfold idxFrom
    split
    · rename_i h
      constructor
      · intro h1; simp at h1
      · intro h1; have := h1 0 (by omega); simp at this; rw [this] at h; cases h
    · rename_i h
      rw [idx_all f r (i + 1)]
      constructor
      · intro h1 k hk
        cases k with
        | zero => simpa using h
        | succ k => have := h1 k (by omega); rwa [show i + 1 + k = i + (k + 1) from by omega] at this
      · intro h1 k hk
        have := h1 (k + 1) (by omega)
        rwa [show i + (k + 1) = i + 1 + k from by omega] at this
theorem idx_every (f : Nat → Bool) (n : Nat) : (!decide (0 ≤ idxFrom (fun k => !f k) n 0)) = allN f n := by
  cases h : decide (0 ≤ idxFrom (fun k => !f k) n 0) with
  | false =>
    have h1 := (idx_all (fun k => !f k) n 0).1 h
    symm
    exact allN_iff.2 (fun k hk => by have := h1 k hk; simpa using this)
  | true =>
    cases h2 : allN f n with
    | false => rfl
    | true =>
      have h3 := (idx_all (fun k => !f k) n 0).2 (fun k hk => by have := allN_iff.1 h2 k hk; simp [this])
      rw [h] at h3; cases h3

/-- a row of numbers in memory, below block B -/
def IntRow (w : World) (B : Nat) (A : Option Addr) (n : Nat) (X : Nat → Int) : Prop :=
  ∀ k, k < n → ∃ b o, A = some ⟨b, o, none⟩ ∧ b < B ∧ w.cell? ⟨b, o + k, none⟩ = some (.int .i64 (X k))
theorem IntRow.below {w w' : World} {B : Nat} {A : Option Addr} {n : Nat} {P : Nat → Int} (h : IntRow w B A n P) (hb : Below B w w') : IntRow w' B A n P := fun k hk => by
  obtain ⟨b, o, hA, hB, c0⟩ := h k hk
  exact ⟨b, o, hA, hB, (hb.cell (p := ⟨b, _, none⟩) hB).trans c0⟩
theorem IntRow.mono {w : World} {B B' : Nat} {A : Option Addr} {n : Nat} {P : Nat → Int} (h : IntRow w B A n P) (hb : B ≤ B') : IntRow w B' A n P := fun k hk => by
  obtain ⟨b, o, hA, hB, c⟩ := h k hk
  exact ⟨b, o, hA, Nat.lt_of_lt_of_le hB hb, c⟩

theorem set_heap {w : World} {a : Addr} (u : Value) {k : Nat} (h : k ≠ a.block) : (w.setCell a u).heap[k]? = w.heap[k]? := by
  unfold World.setCell
  rw [Array.getElem?_modify, if_neg (fun e => h e.symm)]
theorem lay_in {A B : Prop} (a : A) (f : A → B) : B := f a
theorem fro_below_cell {w w1 : World} {a : Addr} {v : Value} (hb : Below w.heap.size w w1) (hc : w.cell? a = some v) (h : w.frozen? a = false) : w1.frozen? a = false :=
  Fb hb (World.block_lt_of_cell? w a hc) h
section
variable {w w' : World} {b : Nat} {v : Value}
theorem cell_same {o : Nat} (hb : w'.heap[b]? = w.heap[b]?) (h : w.cell? ⟨b, o, none⟩ = some v) : w'.cell? ⟨b, o, none⟩ = some v := (World.cell?_of_block hb).trans h
theorem fro_same {o : Nat} (hb : w'.heap[b]? = w.heap[b]?) (h : w.frozen? ⟨b, o, none⟩ = false) : w'.frozen? ⟨b, o, none⟩ = false := (World.frozen?_of_block hb).trans h
end
theorem wp_world {P : Program} {c : Code} {Q : Exit → Act → World → Prop} {a : Act} {w : World} (S : World → Prop) (hS : S w) (h : ∀ W1, S W1 → c.wp P Q a W1) : c.wp P Q a w := h w hS
def numCells (f : Nat → Int) (n : Nat) : List Value := (List.range n).map fun j => .int .i64 (f j)
theorem numCells_len (f : Nat → Int) (n : Nat) : (numCells f n).length = n := by simp [numCells]
theorem numCells_get (f : Nat → Int) {n j : Nat} (hj : j < n) : (numCells f n)[j]? = some (.int .i64 (f j)) := by simp [numCells, hj]
theorem numCells_one (f : Nat → Int) (n : Nat) : ∀ u ∈ numCells f n, u.oneCell' = true := by
  intro u hu
  simp only [numCells, List.mem_map] at hu
  obtain ⟨j, _, rfl⟩ := hu
  rfl
theorem gb_trans {A C D : World} {m : Nat} (h : A.grownBy C (some m)) (k : C.grownBy D (some m)) : A.grownBy D (some m) :=
  ⟨k.os.trans h.os, k.tape.trans h.tape, k.output.trans h.output, Nat.le_trans h.size k.size, fun i hi hn => (k.block i (Nat.lt_of_lt_of_le hi h.size) hn).trans (h.block i hi hn)⟩
theorem gb_set (W : World) (b o : Nat) (v : Value) : W.grownBy (W.setCell ⟨b, o, none⟩ v) (some b) :=
  ⟨rfl, rfl, rfl, by simp [World.setCell], fun i _ hn => Below.heap_setCell _ _ _ _ (fun e => hn (by rw [e]))⟩
theorem gb_below {A C : World} {m B : Nat} (h : A.grownBy C (some m)) (hB : B ≤ A.heap.size) (hm : B ≤ m) : Below B A C :=
  (Below.refl B A).grown h hB (fun k e => by injection e with e; omega)
theorem infoInt : (Tryz.prog.info? 3).map (fun i => (i.zero, i.size, i.bytes)) = some (some (.int .i64 0), 1, 8) := by kernel_rfl
theorem ints_under : Tryz.prog.underlying 31 = some (.slice 3) := by kernel_rfl
theorem owns_later {w w' : World} {base : Nat} {e : TypeId} {size : Nat} {v : Value} {n : Nat} {xs : List Value} (h : w.ownsRow base e size v n xs) (hb : Below w.heap.size w w') : w'.ownsRow base e size v n xs :=
  ⟨h.1, h.2.imp id (fun ⟨g, cap, cur, a, b, c, d⟩ => ⟨g, cap, cur, a, b, (hb.block g (Array.getElem?_eq_some_iff.1 c).1).trans c, d⟩)⟩
theorem cell_of_row {w : World} {g : Nat} {cs : List Value} {t : TypeId} {f : Nat × Nat} (h : w.heap[g]? = some (.cells cs.toArray t f)) {k : Nat} {v : Value} (hk : cs[k]? = some v) : w.cell? ⟨g, k, none⟩ = some v := by
  unfold World.cell?
  rw [h]
  simpa using hk
theorem new_cells {w : World} {cs : List Value} {t : TypeId} : ∀ (j : Nat) (u : Value), cs[j]? = some u → (w.alloc (.cells cs.toArray t)).cell? ((⟨w.heap.size, 0, none⟩ : Addr).add j) = some u := fun j u h => by
  rw [show ((⟨w.heap.size, 0, none⟩ : Addr).add j) = ⟨w.heap.size, j, none⟩ by by_cases hj : j = 0 <;> simp [Addr.add, hj]]
  exact cell_of_row (World.alloc_heap_new w _) h
/-- the number in a cell -/
def numAt (w : World) (a : Addr) : Int := match w.cell? a with | some (.int _ z) => z | _ => 0
theorem numAt_eq {w : World} {a : Addr} {z : Int} (h : w.cell? a = some (.int .i64 z)) : w.cell? a = some (.int .i64 (numAt w a)) := by
  unfold numAt; rw [h]
def OwnInt (w : World) (lo : Nat) (A : Option Addr) (n : Nat) (X : Nat → Int) : Prop :=
  ∀ k, k < n → ∃ b, A = some ⟨b, 0, none⟩ ∧ lo ≤ b ∧ w.cell? ⟨b, k, none⟩ = some (.int .i64 (X k)) ∧ ∀ i, w.frozen? ⟨b, i, none⟩ = false
def intCell (X : Nat → Int) (j : Nat) : Int := X j
theorem IntRow.none {w : World} {B n : Nat} {A : Option Addr} {P : Nat → Int} (h : IntRow w B A n P) : A = none → n = 0 := fun e => by
  cases n with
  | zero => rfl
  | succ n => obtain ⟨b, o, hA, _⟩ := h 0 (by omega); rw [e] at hA; cases hA
theorem IntRow.atA {w : World} {B n : Nat} {P : Nat → Int} {a : Addr} (h : IntRow w B (some a) n P) {j : Nat} (hj : j < n * 1) : w.cell? (a.add j) = some (.int .i64 (intCell P j)) := by
  obtain ⟨b, o, hA, _, hc⟩ := h j (by omega)
  injection hA with hA
  subst hA
  rw [Addr.add_lit]
  exact hc
theorem OwnInt.of_owns {w : World} {lo n : Nat} {v : Value} {P : Nat → Int} (h : w.ownsRow lo 3 1 v n (numCells (intCell P) (n * 1))) : ∃ A c, v = .slice A n c ∧ OwnInt w lo A n P ∧ n ≤ c := by
  rcases h.2 with ⟨rfl, h0⟩ | ⟨g, cap, cur, rfl, hb, hg, hc, _⟩
  · refine ⟨Option.none, 0, by rw [h0], fun k hk => by omega, by omega⟩
  · refine ⟨some ⟨g, 0, Option.none⟩, cap, rfl, fun k hk => ⟨g, rfl, hb, ?_, fun i => frozen_of_row _ _ _ _ _ hg⟩, hc⟩
    have h1 := h.cells (g := g) rfl k _ (numCells_get (intCell P) (by omega))
    rwa [show ((⟨g, 0, Option.none⟩ : Addr).add k) = ⟨g, k, Option.none⟩ by by_cases hj : k = 0 <;> simp [Addr.add, hj]] at h1
theorem OwnInt.row {w : World} {lo n : Nat} {A : Option Addr} {P : Nat → Int} (h : OwnInt w lo A n P) : IntRow w w.heap.size A n P := fun k hk => by
  obtain ⟨b, hA, _, c0, _⟩ := h k hk
  exact ⟨b, 0, hA, World.block_lt_of_cell? w _ c0, by rw [Nat.zero_add]; exact c0⟩
theorem OwnInt.later {w w' : World} {lo n : Nat} {A : Option Addr} {P : Nat → Int} (h : OwnInt w lo A n P) (hb : Below w.heap.size w w') : OwnInt w' lo A n P := fun k hk => by
  obtain ⟨b, hA, hl, c0, hf⟩ := h k hk
  have hs := hb.block b (World.block_lt_of_cell? w _ c0)
  exact ⟨b, hA, hl, cell_same hs c0, fun i => fro_same hs (hf i)⟩


theorem OwnInt.keep {w w' : World} {lo n : Nat} {A : Option Addr} {P : Nat → Int} (h : OwnInt w lo A n P) (hk : ∀ b, lo ≤ b → b < w.heap.size → w'.heap[b]? = w.heap[b]?) : OwnInt w' lo A n P := fun k hk' => by
  obtain ⟨b, hA, hl, c0, hf⟩ := h k hk'
  have hs := hk b hl (World.block_lt_of_cell? w _ c0)
  exact ⟨b, hA, hl, cell_same hs c0, fun i => fro_same hs (hf i)⟩
theorem numCells_succ (X : Nat → Int) (n : Nat) : numCells X (n + 1) = numCells X n ++ [.int .i64 (X n)] := by simp [numCells, List.range_succ]

theorem own_keep {wr w' : World} {base cb : Nat} {e : TypeId} {size : Nat} {v : Value} {n : Nat} {xs : List Value} (h : wr.ownsRow base e size v n xs) (hg : wr.grownBy w' (some cb)) (hcb : cb < base) : w'.ownsRow base e size v n xs :=
  h.kept hg (by
    cases hv : v.ownBlock with
    | none => exact .inl rfl
    | some k => exact .inr (fun e => by injection e with e; have := (h.lt k hv).1; omega))
theorem numCells_put {X : Nat → Int} {k : Nat} (x : Int) : numCells X k ++ [.int .i64 x] = numCells (fun j => if j = k then x else X j) (k + 1) := by
  rw [numCells_succ]
  congr 1
  · unfold numCells
    refine List.map_congr_left (fun j hj => ?_)
    have : j < k := by simpa using hj
    show Value.int .i64 (X j) = Value.int .i64 (if j = k then x else X j)
    rw [if_neg (by omega)]
  · simp
theorem ownInt_of {w : World} {base n : Nat} {v : Value} {X : Nat → Int} (h : w.ownsRow base 3 1 v n (numCells X n)) : ∃ A c, v = .slice A n c ∧ OwnInt w base A n X ∧ n ≤ c := by
  rcases h.2 with ⟨rfl, h0⟩ | ⟨g, cap, cur, rfl, hb, hg, hc, _⟩
  · exact ⟨none, 0, by rw [h0], fun k hk => by omega, by omega⟩
  · refine ⟨some ⟨g, 0, none⟩, cap, rfl, fun k hk => ?_, hc⟩
    have h1 := h.cells (g := g) rfl k _ (numCells_get X (by omega))
    rw [show ((⟨g, 0, none⟩ : Addr).add k) = ⟨g, k, none⟩ by by_cases hj : k = 0 <;> simp [Addr.add, hj]] at h1
    exact ⟨g, rfl, hb, h1, fun i => frozen_of_row _ _ _ _ _ hg⟩

theorem OwnInt.put {w : World} {lo n b : Nat} {X : Nat → Int} (h : OwnInt w lo (some ⟨b, 0, none⟩) n X) {i : Nat} (hi : i < n) (v : Int) : OwnInt (w.setCell ⟨b, i, none⟩ (.int .i64 v)) lo (some ⟨b, 0, none⟩) n (fun t => if t = i then v else X t) := fun k hk => by
  obtain ⟨_, hA, hl, c0, hf⟩ := h k hk
  injection hA with hA
  injection hA with hA
  subst hA
  refine ⟨b, rfl, hl, ?_, fun j => Fs _ (hf j)⟩
  dsimp only
  by_cases hki : k = i
  · subst hki
    rw [if_pos rfl]
    exact World.cell?_setCell_same' _ _ _ (by rw [c0]; rfl)
  · rw [if_neg hki, World.cell?_setCell_other _ _ _ _ (by intro e; injection e with _ e _; omega)]
    exact c0
theorem OwnInt.congr {w : World} {lo n : Nat} {A : Option Addr} {X Y : Nat → Int} (h : OwnInt w lo A n X) (e : ∀ k, k < n → X k = Y k) : OwnInt w lo A n Y := fun k hk => by
  obtain ⟨b, hA, hl, c0, hf⟩ := h k hk
  rw [e k hk] at c0
  exact ⟨b, hA, hl, c0, hf⟩
theorem OwnInt.low {w : World} {lo lo' n : Nat} {A : Option Addr} {X : Nat → Int} (h : OwnInt w lo A n X) (hl : lo' ≤ lo) : OwnInt w lo' A n X := fun k hk => by
  obtain ⟨b, hA, h1, h2⟩ := h k hk
  exact ⟨b, hA, Nat.le_trans hl h1, h2⟩
/-- cells of a row, element by element -/
def rowC {α : Type} (f : α → List Value) (X : Nat → α) : Nat → List Value
  | 0 => []
  | n + 1 => rowC f X n ++ f (X n)
theorem rowC_len {α : Type} {f : α → List Value} {c : Nat} (hf : ∀ x, (f x).length = c) (X : Nat → α) : ∀ n, (rowC f X n).length = n * c
  | 0 => by simp [rowC]
  | n + 1 => by rw [rowC, List.length_append, rowC_len hf X n, hf, Nat.succ_mul]
theorem rowC_get {α : Type} {f : α → List Value} {c : Nat} (hf : ∀ x, (f x).length = c) (X : Nat → α) : ∀ n k j, k < n → j < c → (rowC f X n)[k * c + j]? = (f (X k))[j]?
  | 0, k, j, hk, _ => absurd hk (by omega)
  | n + 1, k, j, hk, hj => by
    have hl := rowC_len hf X n
    unfold rowC
    by_cases e : k = n
    · subst e
      rw [List.getElem?_append_right (by omega), hl, Nat.add_sub_cancel_left]
    · have hm : (k + 1) * c ≤ n * c := Nat.mul_le_mul_right c (by omega)
      rw [Nat.succ_mul] at hm
      rw [List.getElem?_append_left (by omega)]
      exact rowC_get hf X n k j (by omega) hj
theorem rowC_congr {α : Type} {f : α → List Value} {X Y : Nat → α} : ∀ n, (∀ k, k < n → X k = Y k) → rowC f X n = rowC f Y n
  | 0, _ => rfl
  | n + 1, h => by rw [rowC, rowC, rowC_congr n (fun k hk => h k (by omega)), h n (by omega)]
theorem rowC_put {α : Type} {f : α → List Value} {X : Nat → α} {k : Nat} (x : α) : rowC f X k ++ f x = rowC f (fun j => if j = k then x else X j) (k + 1) := by
  rw [rowC, if_pos rfl, rowC_congr (Y := fun j => if j = k then x else X j) k (fun j hj => by rw [if_neg (by omega)])]
theorem rowC_one {α : Type} {f : α → List Value} (hf : ∀ x, ∀ v ∈ f x, v.oneCell' = true) (X : Nat → α) : ∀ n, ∀ v ∈ rowC f X n, v.oneCell' = true
  | 0, v, hv => by cases hv
  | n + 1, v, hv => by
    rcases List.mem_append.1 hv with h | h
    · exact rowC_one hf X n v h
    · exact hf _ v h
theorem add_at (g k : Nat) : ((⟨g, 0, none⟩ : Addr).add k) = ⟨g, k, none⟩ := by by_cases hj : k = 0 <;> simp [Addr.add, hj]
theorem owns_sm {w w' : World} {base : Nat} {e : TypeId} {size : Nat} {v : Value} {n : Nat} {xs : List Value} (h : w.ownsRow base e size v n xs) (hk : ∀ g, base ≤ g → v.ownBlock = some g → w'.heap[g]? = w.heap[g]?) : w'.ownsRow base e size v n xs :=
  ⟨h.1, h.2.imp id (fun ⟨g, cap, cur, a, b, c, d⟩ => ⟨g, cap, cur, a, b, (hk g b (by rw [a]; rfl)).trans c, d⟩)⟩
/-- two cells of one's own -/
structure V2 (w : World) (b : Nat) (v g : Value) : Prop where
  c0 : w.cell? ⟨b, 0, none⟩ = some v
  c1 : w.cell? ⟨b, 1, none⟩ = some g
  f0 : w.frozen? ⟨b, 0, none⟩ = false
  f1 : w.frozen? ⟨b, 1, none⟩ = false
theorem V2.same {w w' : World} {b : Nat} {v g : Value} (h : V2 w b v g) (hs : w'.heap[b]? = w.heap[b]?) : V2 w' b v g := ⟨cell_same hs h.c0, cell_same hs h.c1, fro_same hs h.f0, fro_same hs h.f1⟩
theorem V2.lt {w : World} {b : Nat} {v g : Value} (h : V2 w b v g) : b < w.heap.size := World.block_lt_of_cell? w _ h.c0
theorem V2.set0 {w : World} {b : Nat} {v g : Value} (h : V2 w b v g) (u : Value) : V2 (w.setCell ⟨b, 0, none⟩ u) b u g :=
  ⟨by simp [go_sem, h.c0], by simp [go_sem, h.c1], Fs _ h.f0, Fs _ h.f1⟩
theorem V2.set1 {w : World} {b : Nat} {v g : Value} (h : V2 w b v g) (u : Value) : V2 (w.setCell ⟨b, 1, none⟩ u) b v u :=
  ⟨by simp [go_sem, h.c0], by simp [go_sem, h.c1], Fs _ h.f0, Fs _ h.f1⟩
theorem gb_of_below {W W' : World} (m : Nat) (h : Below W.heap.size W W') : W.grownBy W' (some m) := ⟨h.os, h.tape, h.output, h.size, fun k hk _ => h.block k hk⟩
theorem gb_own {W wr w' : World} {cb : Nat} {v : Option Nat} (h : W.grownBy wr (some cb)) (hg : wr.grownBy w' v) (hv : ∀ g, v = some g → W.heap.size ≤ g) : W.grownBy w' (some cb) :=
  ⟨hg.os.trans h.os, hg.tape.trans h.tape, hg.output.trans h.output, Nat.le_trans h.size hg.size, fun i hi hn => (hg.block i (Nat.lt_of_lt_of_le hi h.size) (fun e => by have := hv i e.symm; omega)).trans (h.block i hi hn)⟩
theorem gb_cell {W wr : World} {cb : Nat} (h : W.grownBy wr (some cb)) {a : Addr} (ha : W.heap.size ≤ a.block) (v : Value) : W.grownBy (wr.setCell a v) (some cb) :=
  ⟨h.os, h.tape, h.output, by have := h.size; simpa [World.setCell] using this, fun i hi hn => (Below.heap_setCell _ _ _ _ (by omega)).trans (h.block i hi hn)⟩
theorem gb_new {W wr : World} {cb : Nat} (h : W.grownBy wr (some cb)) (o : Obj) : W.grownBy (wr.alloc o) (some cb) :=
  ⟨h.os, h.tape, h.output, by have := h.size; simp; omega, fun i hi hn => (Below.heap_alloc _ _ _ (Nat.lt_of_lt_of_le hi h.size)).trans (h.block i hi hn)⟩
theorem mkInts (n : Nat) (hn : n ≤ 1000) (w : World) : (Instr.makeSlice 31 (.int .i64 (n : Int)) (.int .i64 (n : Int))).run Tryz.prog w = .ok (.slice (some ⟨w.heap.size, 0, none⟩) n n) (w.alloc (.cells (madeCells (Value.cells (.int .i64 0)) n) 3)) := by
  obtain ⟨i0, hi, hz0, hz1, hz2⟩ := info_parts infoInt
  have h := run_make (P := Tryz.prog) w 31 3 i0 _ ints_under hi hz0 .i64 .i64 (n : Int) (n : Int) (by omega) (Int.le_refl _) (by rw [hz2]; omega) (by omega)
  rw [hz1, Int.toNat_natCast, Nat.mul_one] at h
  exact h
theorem madeInt_zero (n j : Nat) (h : j < n) : (madeCells (Value.cells (.int .i64 0)) n)[j]? = some (.int .i64 0) := by
  have hs : (madeCells (Value.cells (.int .i64 0)) n).size = n := size_madeCells _ _
  rw [Array.getElem?_eq_getElem (by omega)]
  congr 1
  simp only [madeCells, Array.getElem_map, Array.getElem_range]
  show (#[Value.int .i64 0] : Array Value)[j % 1]! = _
  rw [Nat.mod_one]
  rfl
theorem ownInt_made (n : Nat) (w : World) : OwnInt (w.alloc (.cells (madeCells (Value.cells (.int .i64 0)) n) 3)) w.heap.size (some ⟨w.heap.size, 0, none⟩) n (fun _ => 0) := fun k hk =>
  ⟨w.heap.size, rfl, Nat.le_refl _, Kw rfl (madeInt_zero n k hk), fun i => Fw rfl⟩
end Go.Proofs.YtnnikeolgknfoaaGreat
