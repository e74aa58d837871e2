/- The law LotKept, walked. -/
import Derived.Test.YtegmomappbehcaaJa
import Derived.Test.YtegmomappbehcaaK3
import Derived.Test.YtegmomappbehcaaWy
import Derived.Deep.AppendLies
import Derived.Deep.RegionHeldLaw
import Derived.Test.YtegmomappbehcaaLb
import Derived.Test.YtegmomappbehcaaPo
import Derived.Test.YtegmomappbehcaaTe
import Derived.Test.YtegmomappbehcaaVb
import Derived.Test.YtegmomappbehcaaWo
import Derived.Test.YtegmomappbehcaaWv
import Derived.Test.YtegmomappbehcaaLc
import Derived.Test.YtegmomappbehcaaAx
import Derived.Test.YtegmomappbehcaaF
import Derived.Test.YtegmomappbehcaaWl
set_option linter.unusedSimpArgs false
set_option linter.unusedVariables false
namespace Go.Proofs.Ytegmomappbehcaa
open Go.RowKit Go.Shelf

set_option maxRecDepth 100000 in
set_option maxHeartbeats 1000000 in
theorem total_any (A : Option Addr) (n c : Nat) (X : Nat → Int) (W : World) (hl : IntRow W W.heap.size A n X) (hn : n ≤ 1000) (hx : ∀ k, k < n → -100 ≤ X k ∧ X k ≤ 100) :
    Calls Try.prog 41 #[.slice A n c] W fun e W' => e = .returned (.int .i64 (sumN X n)) ∧ Below W.heap.size W W' := by
  have HL := Lib.hid hl
  have HBD : Hid (∀ k, k ≤ n → -100 * (k : Int) ≤ sumN X k ∧ sumN X k ≤ 100 * (k : Int)) := Lib.hid (fun k hk => sumN_bdh X k (fun j hj => hx j (by omega)))
  have HX := Lib.hid hx
  clear hl hx
  go_enter Try.func41, Try.ntmps41
  go_wp2_with fail
  go_loopw [3, 8] (fun v i wr => ∃ k : Nat, k ≤ n ∧ i = .int .i64 k ∧ v = .int .i64 (sumN X k) ∧ wr = W) (fun _ i _ => n - (intOf i).toNat)
  case atStart => exact ⟨0, Nat.zero_le _, rfl, rfl, rfl⟩
  case round =>
    obtain ⟨k, hk, rfl, rfl, rfl⟩ := hrel
    by_cases hlt : k < n
    · obtain ⟨b, o, rfl, hbl, c0⟩ := HL.out k hlt
      have hk0 : (0 : Int) ≤ (k : Int) := by omega
      have hkn : (k : Int) < (n : Int) := by omega
      have hb1 := HBD.out (k + 1) hlt
      have ew : IntKind.i64.wrap (sumN X k + X k) = sumN X (k + 1) := IntWalk.i64_in _ (by
        have : sumN X (k + 1) = sumN X k + X k := rfl
        omega)
      clear hb1
      go_wp2_with fail
      go_roundw
      case rel => exact ⟨k + 1, by omega, by go_num, rfl, trivial⟩
      case measure => simp [intOf]; omega
    · obtain rfl : k = n := by omega
      have hge : ¬ (k : Int) < (k : Int) := by omega
      go_wp2_with fail
      go_ret
      exact ⟨rfl, Below.refl _ _⟩

set_option maxRecDepth 100000 in
set_option maxHeartbeats 400000 in
theorem inspan_any (n lo hi : Int) (W : World) :
    Calls Try.prog 44 #[.int .i64 n, .agg #[.int .i64 lo, .int .i64 hi]] W fun e W' => e = .returned (.bool (decide (lo ≤ n) && decide (n ≤ hi))) ∧ Below W.heap.size W W' := by
  by_cases h1 : lo ≤ n
  · by_cases h2 : n ≤ hi
    · have HE := Lib.hid (show (decide (lo ≤ n) && decide (n ≤ hi)) = true by simp; omega)
      go_enter Try.func44, Try.ntmps44
      go_wp2_with fail
      go_ret
      exact ⟨by rw [HE.out]; rfl, (by repeat (first | (with_reducible exact Below.refl _ _) | (with_reducible refine Below.drew ?_) | (with_reducible refine below_drewN ?_ _) | ((with_reducible refine below_alloc ?_ ?_ _); · (first | exact Nat.le_refl _ | omega | (simp; done) | (simp; omega) | (simp at *; omega))) | ((with_reducible refine below_set ?_ ?_ _); · (first | exact Nat.le_refl _ | omega | (simp; done) | (simp; omega) | (simp at *; omega))) | ((with_reducible refine below_via (by with_reducible assumption) ?_ ?_); · (first | exact Nat.le_refl _ | omega | (simp; done) | (simp; omega) | (simp at *; omega)))))⟩
    · have HE := Lib.hid (show (decide (lo ≤ n) && decide (n ≤ hi)) = false by simp; omega)
      go_enter Try.func44, Try.ntmps44
      go_wp2_with fail
      go_ret
      exact ⟨by rw [show decide (n ≤ hi) = false by simp; omega]; rfl, (by repeat (first | (with_reducible exact Below.refl _ _) | (with_reducible refine Below.drew ?_) | (with_reducible refine below_drewN ?_ _) | ((with_reducible refine below_alloc ?_ ?_ _); · (first | exact Nat.le_refl _ | omega | (simp; done) | (simp; omega) | (simp at *; omega))) | ((with_reducible refine below_set ?_ ?_ _); · (first | exact Nat.le_refl _ | omega | (simp; done) | (simp; omega) | (simp at *; omega))) | ((with_reducible refine below_via (by with_reducible assumption) ?_ ?_); · (first | exact Nat.le_refl _ | omega | (simp; done) | (simp; omega) | (simp at *; omega)))))⟩
  · have HE := Lib.hid (show (decide (lo ≤ n) && decide (n ≤ hi)) = false by simp; omega)
    go_enter Try.func44, Try.ntmps44
    go_wp2_with fail
    go_ret
    exact ⟨by rw [HE.out]; rfl, (by repeat (first | (with_reducible exact Below.refl _ _) | (with_reducible refine Below.drew ?_) | (with_reducible refine below_drewN ?_ _) | ((with_reducible refine below_alloc ?_ ?_ _); · (first | exact Nat.le_refl _ | omega | (simp; done) | (simp; omega) | (simp at *; omega))) | ((with_reducible refine below_set ?_ ?_ _); · (first | exact Nat.le_refl _ | omega | (simp; done) | (simp; omega) | (simp at *; omega))) | ((with_reducible refine below_via (by with_reducible assumption) ?_ ?_); · (first | exact Nat.le_refl _ | omega | (simp; done) | (simp; omega) | (simp at *; omega)))))⟩

set_option maxRecDepth 100000 in
set_option maxHeartbeats 400000 in
theorem wrap_any (v n : Int) (hn : n ≤ 1000) (W : World) :
    Calls Try.prog 42 #[.int .i64 v, .int .i64 n] W fun e W' => ∃ k : Int, e = .returned (.int .i64 k) ∧ 0 ≤ k ∧ (k < n ∨ k = 0) ∧ W = W' := by
  by_cases h1 : n < 1
  · go_enter Try.func42, Try.ntmps42
    go_wp2_with fail
    go_ret
    exact ⟨0, rfl, by omega, .inr rfl, rfl⟩
  · have h2 : 1 ≤ n := by omega
    have hne : (n == 0) = false := by rw [beq_eq_false_iff_ne]; omega
    have hb : -n < v.tmod n ∧ v.tmod n < n := by
      have h3 := Int.tmod_lt_of_pos v (show 0 < n by omega)
      have h4 : -n < v.tmod n := by
        have h5 := Int.tmod_lt_of_pos (-v) (show 0 < n by omega)
        rw [Int.neg_tmod] at h5
        omega
      exact ⟨h4, h3⟩
    have HB := Lib.hid hb
    have ew : IntKind.i64.wrap (v.tmod n) = v.tmod n := IntWalk.i64_in _ (by omega)
    by_cases h3 : v.tmod n < 0
    · have ew2 : IntKind.i64.wrap (v.tmod n + n) = v.tmod n + n := IntWalk.i64_in _ (by omega)
      clear hb
      go_enter Try.func42, Try.ntmps42
      go_wp2_with fail
      go_ret
      have := HB.out
      exact ⟨_, rfl, by omega, .inl (by omega), rfl⟩
    · clear hb
      go_enter Try.func42, Try.ntmps42
      go_wp2_with fail
      go_ret
      have := HB.out
      exact ⟨_, rfl, by omega, .inl (by omega), rfl⟩

theorem own_keep {wr w' : World} {base cb : Nat} {e : TypeId} {size : Nat} {v : Value} {n : Nat} {xs : List Value} (h : wr.ownsRow base e size v n xs) (hg : wr.grownBy w' (some cb)) (hcb : cb < base) : w'.ownsRow base e size v n xs :=
  h.kept hg (by
    cases hv : v.ownBlock with
    | none => exact .inl rfl
    | some k => exact .inr (fun e => by injection e with e; have := (h.lt k hv).1; omega))
theorem numCells_put {X : Nat → Int} {k : Nat} (x : Int) : numCells X k ++ [.int .i64 x] = numCells (fun j => if j = k then x else X j) (k + 1) := by
  rw [numCells_succ]
  congr 1
  · unfold numCells
    refine List.map_congr_left (fun j hj => ?_)
    have : j < k := by simpa using hj
    show Value.int .i64 (X j) = Value.int .i64 (if j = k then x else X j)
    rw [if_neg (by omega)]
  · simp
/-- what MadeLot gives -/
def LotPost (st : St) (B cb : Nat) (lA : Option Addr) (ln lc : Nat) (W : World) (e : Ending) (W' : World) : Prop :=
  ∃ (A : Option Addr) (c : Nat) (X : Nat → Int), e = .returned (.slice A st.n c) ∧ OwnInt W' W.heap.size A st.n X ∧ st.n ≤ c ∧ (∀ k, k < st.n → 0 ≤ X k ∧ X k ≤ (st.P k).s) ∧ W.grownBy W' (some cb) ∧ Chute W' B cb lA ln lc
theorem ownInt_of {w : World} {base n : Nat} {v : Value} {X : Nat → Int} (h : w.ownsRow base 3 1 v n (numCells X n)) : ∃ A c, v = .slice A n c ∧ OwnInt w base A n X ∧ n ≤ c := by
  rcases h.2 with ⟨rfl, h0⟩ | ⟨g, cap, cur, rfl, hb, hg, hc, _⟩
  · exact ⟨none, 0, by rw [h0], fun k hk => by omega, by omega⟩
  · refine ⟨some ⟨g, 0, none⟩, cap, rfl, fun k hk => ?_, hc⟩
    have h1 := h.cells (g := g) rfl k _ (numCells_get X (by omega))
    rw [show ((⟨g, 0, none⟩ : Addr).add k) = ⟨g, k, none⟩ by by_cases hj : k = 0 <;> simp [Addr.add, hj]] at h1
    exact ⟨g, rfl, hb, h1, fun i => frozen_of_row _ _ _ _ _ hg⟩

set_option maxRecDepth 100000 in
set_option maxHeartbeats 2000000 in
theorem madelot_any (st : St) (B R cb : Nat) (lA : Option Addr) (ln lc : Nat) (hln : ln ≤ 9223372036854775807) (pA gA : Option Addr) (pc gc : Nat) (W : World) (hs : StRow W R st pA pc gA gc) (hne : ∀ a, pA = some a → a.block ≠ cb) (hn : st.n ≤ 4) (hsx : ∀ k, k < st.n → 0 ≤ (st.P k).s ∧ (st.P k).s ≤ 6) (hB : B ≤ W.heap.size) (hcb : cb < W.heap.size) (hc : Chute W B cb lA ln lc) :
    Calls Try.prog 39 #[.pointer (some ⟨cb, 0, none⟩), stV pA st.n pc gA st.m gc st.lots] W (LotPost st B cb lA ln lc W) := by
  have HS := Lib.hid hs
  have HC := Lib.hid hc
  have HNE := Lib.hid hne
  have HX := Lib.hid hsx
  have hR := hs.lt
  clear hs hc hne hsx
  obtain ⟨i0, hi, hz0, hz1, hz2⟩ := info_parts infoInt
  go_enter Try.func39, Try.ntmps39
  go_wp2_with fail
  have hba : Below W.heap.size W (W.alloc (.cells #[.slice pA st.n pc, .slice gA st.m gc, .int .i64 st.lots] 25)) := (by repeat (first | (with_reducible exact Below.refl _ _) | (with_reducible refine Below.drew ?_) | (with_reducible refine below_drewN ?_ _) | ((with_reducible refine below_alloc ?_ ?_ _); · (first | exact Nat.le_refl _ | omega | (simp; done) | (simp; omega) | (simp at *; omega))) | ((with_reducible refine below_set ?_ ?_ _); · (first | exact Nat.le_refl _ | omega | (simp; done) | (simp; omega) | (simp at *; omega))) | ((with_reducible refine below_via (by with_reducible assumption) ?_ ?_); · (first | exact Nat.le_refl _ | omega | (simp; done) | (simp; omega) | (simp at *; omega)))))
  have HC1 := Lib.hid (HC.out.later hba)
  have HG1 := Lib.hid (gb_of_below cb hba)
  clear hba
  go_loopw [5, 11] (fun v i wr => ∃ (k : Nat) (X : Nat → Int), k ≤ st.n ∧ i = .int .i64 k ∧ Hid (wr.ownsRow W.heap.size 3 1 v k (numCells X k)) ∧ Hid (∀ j, j < k → 0 ≤ X j ∧ X j ≤ (st.P j).s) ∧ Hid (Chute wr B cb lA ln lc) ∧ Hid (W.grownBy wr (some cb))) (fun _ i _ => st.n - (intOf i).toNat)
  case atStart => exact ⟨0, fun _ => 0, Nat.zero_le _, rfl, Lib.hid (World.ownsRow_nil _ _ _ _), Lib.hid (fun j hj => absurd hj (by omega)), HC1, HG1⟩
  case round =>
    clear HC1 HG1
    obtain ⟨k, X, hk, rfl, hown, hxs, hch, hg⟩ := hrel
    have hsw := hg.out.size
    by_cases hlt : k < st.n
    · obtain ⟨b, o, rfl, hbl, d0, d1, d2, d3⟩ := HS.out.p k hlt
      have hnb : b ≠ cb := HNE.out _ rfl
      have hkb : wr.heap[b]? = W.heap[b]? := hg.out.block b (by omega) (fun e => by injection e with e; omega)
      have c0 := cell_same hkb d0
      have c1 := cell_same hkb d1
      have c2 := cell_same hkb d2
      have c3 := cell_same hkb d3
      have hx := HX.out k hlt
      have hk0 : (0 : Int) ≤ (k : Int) := by omega
      have hkn : (k : Int) < (st.n : Int) := by omega
      have e1 : IntKind.i64.wrap ((st.P k).s + 1) = (st.P k).s + 1 := IntWalk.i64_in _ (by omega)
      have hv1 := hown.out.lt
      clear d0 d1 d2 d3 hkb
      go_wp2_with fail
      have hba : Below wr.heap.size wr (wr.alloc (.cells #[.int .i64 (st.P k).s, .int .i64 (st.P k).w, .int .i64 (st.P k).o, .int .i64 (st.P k).f] 75)) := (by repeat (first | (with_reducible exact Below.refl _ _) | (with_reducible refine Below.drew ?_) | (with_reducible refine below_drewN ?_ _) | ((with_reducible refine below_alloc ?_ ?_ _); · (first | exact Nat.le_refl _ | omega | (simp; done) | (simp; omega) | (simp at *; omega))) | ((with_reducible refine below_set ?_ ?_ _); · (first | exact Nat.le_refl _ | omega | (simp; done) | (simp; omega) | (simp at *; omega))) | ((with_reducible refine below_via (by with_reducible assumption) ?_ ?_); · (first | exact Nat.le_refl _ | omega | (simp; done) | (simp; omega) | (simp at *; omega)))))
      refine (pull_any B cb lA ln lc ((st.P k).s + 1) (by omega) hln _ (hch.out.later hba)).mono ?_
      rintro e w3 ⟨x, rfl, hx0, hx1, hg3, hc3⟩
      have HG3 := Lib.hid (gb_trans (gb_of_below cb hba) hg3)
      have HC3 := Lib.hid hc3
      have HO3 := Lib.hid (own_keep hown.out HG3.out hcb)
      have hs3 := HG3.out.size
      clear hba hg3 hc3 c0 c1 c2 c3
      go_wp2_with (at_builtin; refine wpList_append_lies _ rfl (.tmp 15) (.tmp 21) 26 rfl W.heap.size 3 i0 (.int .i64 0) 1 8 ints_under hi hz0 hz1 hz2 rfl (by decide) u5 k (numCells X k) rfl (HO3.out.alloc _) ⟨w3.heap.size, 0, none⟩ 1 1 [.int .i64 x] rfl rfl (new_cells (cs := [.int .i64 x])) (by intro u hu; simp only [List.mem_cons, List.not_mem_nil, or_false] at hu; subst hu; rfl) (by omega) (by unfold maxLen; omega) (by omega) (by simp; omega) (w3.heap.size + 1) (by simp) ?_; intro g cap w6 hown6 hgr6 hat6 hlt6)
      have HO6 : Hid (w6.ownsRow W.heap.size 3 1 (.slice (some ⟨g, 0, none⟩) (k + 1) cap) (k + 1) (numCells (fun j => if j = k then x else X j) (k + 1))) := Lib.hid (by rw [← numCells_put]; exact hown6)
      have HX6 : Hid (∀ j, j < k + 1 → 0 ≤ (if j = k then x else X j) ∧ (if j = k then x else X j) ≤ (st.P j).s) := Lib.hid (fun j hj => by
        by_cases e : j = k
        · subst e; rw [if_pos rfl]; omega
        · rw [if_neg e]; exact hxs.out j (by omega))
      have hkeep : ∀ i, i < W.heap.size → w6.heap[i]? = w3.heap[i]? := fun i hi => (hgr6.block i (by simp; omega) (fun e => by have := (hv1 i e.symm).1; omega)).trans (Below.heap_alloc _ _ _ (by omega))
      have HC6 : Hid (Chute w6 B cb lA ln lc) := Lib.hid (HC3.out.keep (fun i hi => hkeep i (by omega)))
      have HG6 : Hid (W.grownBy w6 (some cb)) := Lib.hid ⟨hgr6.os.trans (HG3.out.os.trans hg.out.os), hgr6.tape.trans (HG3.out.tape.trans hg.out.tape), hgr6.output.trans (HG3.out.output.trans hg.out.output), by have := hgr6.size; simp at this; omega, fun i hi hn => (hkeep i hi).trans ((HG3.out.block i (by omega) hn).trans (hg.out.block i hi hn))⟩
      clear hown6 hgr6 hat6 hlt6 hkeep
      go_wp2_with fail
      go_roundw
      case rel => exact ⟨k + 1, _, by omega, by go_num, HO6, HX6, HC6, HG6⟩
      case measure => simp [intOf]; omega
    · obtain rfl : k = st.n := by omega
      have hge : ¬ (st.n : Int) < (st.n : Int) := by omega
      obtain ⟨A, c, rfl, hr, hcl⟩ := ownInt_of hown.out
      have HR := Lib.hid hr
      clear hr
      go_wp2_with fail
      go_ret
      exact ⟨A, c, X, rfl, HR.out, hcl, hxs.out, hg.out, hch.out⟩
end Go.Proofs.Ytegmomappbehcaa

set_option linter.unusedSimpArgs false
set_option linter.unusedVariables false
namespace Go.Proofs.Ytegmomappbehcaa
open Go.RowKit Go.Shelf

/-- all but two blocks is as it was -/
structure Gb2 (A C : World) (m n : Nat) : Prop where
  os : C.os = A.os
  tape : C.tape = A.tape
  output : C.output = A.output
  size : A.heap.size ≤ C.heap.size
  block : ∀ i, i < A.heap.size → i ≠ m → i ≠ n → C.heap[i]? = A.heap[i]?
theorem Gb2.trans {A C D : World} {m n : Nat} (h : Gb2 A C m n) (k : Gb2 C D m n) : Gb2 A D m n :=
  ⟨k.os.trans h.os, k.tape.trans h.tape, k.output.trans h.output, Nat.le_trans h.size k.size, fun i hi h1 h2 => (k.block i (Nat.lt_of_lt_of_le hi h.size) h1 h2).trans (h.block i hi h1 h2)⟩
theorem Gb2.below {A C : World} (m n : Nat) (h : Below A.heap.size A C) : Gb2 A C m n := ⟨h.os, h.tape, h.output, h.size, fun i hi _ _ => h.block i hi⟩
theorem Gb2.one {A C : World} {m : Nat} (n : Nat) (h : A.grownBy C (some m)) : Gb2 A C m n := ⟨h.os, h.tape, h.output, h.size, fun i hi h1 _ => h.block i hi (fun e => h1 (by injection e))⟩
theorem Gb2.two {A C : World} {n : Nat} (m : Nat) (h : A.grownBy C (some n)) : Gb2 A C m n := ⟨h.os, h.tape, h.output, h.size, fun i hi _ h2 => h.block i hi (fun e => h2 (by injection e))⟩
theorem Gb2.refl (A : World) (m n : Nat) : Gb2 A A m n := ⟨rfl, rfl, rfl, Nat.le_refl _, fun _ _ _ _ => rfl⟩
/-- a block that is new does not count -/
theorem Gb2.new {A C : World} {m n : Nat} (h : Gb2 A C m n) (hn : A.heap.size ≤ n) : A.grownBy C (some m) := ⟨h.os, h.tape, h.output, h.size, fun i hi h1 => h.block i hi (fun e => h1 (by rw [e])) (by omega)⟩
theorem Gb2.swap {A C : World} {m n p : Nat} (h : Gb2 A C m n) (hn : A.heap.size ≤ n) : Gb2 A C m p := ⟨h.os, h.tape, h.output, h.size, fun i hi h1 _ => h.block i hi h1 (by omega)⟩
theorem owns_same {w w' : World} {base : Nat} {e : TypeId} {size : Nat} {v : Value} {n : Nat} {xs : List Value} (h : w.ownsRow base e size v n xs) (hk : ∀ g, base ≤ g → g < w.heap.size → w'.heap[g]? = w.heap[g]?) : w'.ownsRow base e size v n xs :=
  ⟨h.1, h.2.imp id (fun ⟨g, cap, cur, a, b, c, d⟩ => ⟨g, cap, cur, a, b, (hk g b (Array.getElem?_eq_some_iff.1 c).1).trans c, d⟩)⟩
theorem setCell_sz (w : World) (a : Addr) (v : Value) : (w.setCell a v).heap.size = w.heap.size := by simp [World.setCell]
/-- a picking in memory -/
def PkAt (w : World) (b : Nat) (x : Pk) : Prop := (w.cell? ⟨b, 0, none⟩ = some (.int .i64 x.s) ∧ w.cell? ⟨b, 1, none⟩ = some (.int .i64 x.w) ∧ w.cell? ⟨b, 2, none⟩ = some (.int .i64 x.o) ∧ w.cell? ⟨b, 3, none⟩ = some (.int .i64 x.f)) ∧
  w.frozen? ⟨b, 1, none⟩ = false ∧ w.frozen? ⟨b, 2, none⟩ = false ∧ w.frozen? ⟨b, 3, none⟩ = false
theorem PkAt.same {w w' : World} {b : Nat} {x : Pk} (h : PkAt w b x) (hs : w'.heap[b]? = w.heap[b]?) : PkAt w' b x :=
  ⟨⟨cell_same hs h.1.1, cell_same hs h.1.2.1, cell_same hs h.1.2.2.1, cell_same hs h.1.2.2.2⟩, fro_same hs h.2.1, fro_same hs h.2.2.1, fro_same hs h.2.2.2⟩
theorem PkAt.lt {w : World} {b : Nat} {x : Pk} (h : PkAt w b x) : b < w.heap.size := World.block_lt_of_cell? w _ h.1.1
theorem PkAt.set1 {w : World} {b : Nat} {x : Pk} (h : PkAt w b x) (v : Int) : PkAt (w.setCell ⟨b, 1, none⟩ (.int .i64 v)) b ⟨x.s, v, x.o, x.f⟩ := by
  obtain ⟨⟨h0, h1, h2, h3⟩, f1, f2, f3⟩ := h
  exact ⟨⟨by simp [go_sem, h0], by simp [go_sem, h1], by simp [go_sem, h2], by simp [go_sem, h3]⟩, fro_set_of _ f1, fro_set_of _ f2, fro_set_of _ f3⟩
theorem PkAt.set2 {w : World} {b : Nat} {x : Pk} (h : PkAt w b x) (v : Int) : PkAt (w.setCell ⟨b, 2, none⟩ (.int .i64 v)) b ⟨x.s, x.w, v, x.f⟩ := by
  obtain ⟨⟨h0, h1, h2, h3⟩, f1, f2, f3⟩ := h
  exact ⟨⟨by simp [go_sem, h0], by simp [go_sem, h1], by simp [go_sem, h2], by simp [go_sem, h3]⟩, fro_set_of _ f1, fro_set_of _ f2, fro_set_of _ f3⟩
theorem PkAt.set3 {w : World} {b : Nat} {x : Pk} (h : PkAt w b x) (v : Int) : PkAt (w.setCell ⟨b, 3, none⟩ (.int .i64 v)) b ⟨x.s, x.w, x.o, v⟩ := by
  obtain ⟨⟨h0, h1, h2, h3⟩, f1, f2, f3⟩ := h
  exact ⟨⟨by simp [go_sem, h0], by simp [go_sem, h1], by simp [go_sem, h2], by simp [go_sem, h3]⟩, fro_set_of _ f1, fro_set_of _ f2, fro_set_of _ f3⟩
/-- a store under way, all of which can be written -/
def O4 (w : World) (b : Nat) (v g : Value) (l : Int) : Prop := Out3 w b v g l ∧ w.frozen? ⟨b, 2, none⟩ = false
theorem O4.same {w w' : World} {b : Nat} {v g : Value} {l : Int} (h : O4 w b v g l) (hs : w'.heap[b]? = w.heap[b]?) : O4 w' b v g l := ⟨h.1.same hs, fro_same hs h.2⟩
theorem O4.set0 {w : World} {b : Nat} {v g : Value} {l : Int} (h : O4 w b v g l) (u : Value) : O4 (w.setCell ⟨b, 0, none⟩ u) b u g l := ⟨h.1.set0 u, fro_set_of _ h.2⟩
theorem O4.set1 {w : World} {b : Nat} {v g : Value} {l : Int} (h : O4 w b v g l) (u : Value) : O4 (w.setCell ⟨b, 1, none⟩ u) b v u l := ⟨h.1.set1 u, fro_set_of _ h.2⟩
/-- a made picking of which so many sacks are foul -/
def goodPk (most : Int) (x : Pk) (r : Int) : Prop := (1 ≤ x.s ∧ x.s ≤ most) ∧ (0 ≤ x.w ∧ x.w ≤ min x.s 3) ∧ (0 ≤ r ∧ r ≤ x.w) ∧ (0 ≤ x.f ∧ x.f ≤ x.o) ∧ x.o ≤ x.s ∧ x.f ≤ r ∧ x.o - x.f ≤ x.s - r
/-- made grades, up to one that is next -/
def goodGd (k : Nat) (G : Nat → Gd) (f p : Int) : Prop := (∀ j, j < k → (0 ≤ (G j).foul ∧ (G j).foul ≤ 19 + 20 * (j : Int)) ∧ 40 - 13 * (j : Int) ≤ (G j).price ∧ (G j).price ≤ 60) ∧ (∀ j, j + 1 < k → (G j).foul < (G (j + 1)).foul ∧ (G (j + 1)).price < (G j).price) ∧
  (0 < k → (G (k - 1)).foul < f ∧ p < (G (k - 1)).price) ∧ (0 ≤ f ∧ f ≤ 19 + 20 * (k : Int)) ∧ 40 - 13 * (k : Int) ≤ p ∧ p ≤ 60
/-- what Made gives -/
def MadePost (np most : Int) (B cb : Nat) (lA : Option Addr) (ln lc : Nat) (W : World) (e : Ending) (W' : World) : Prop :=
  ∃ (st : St) (R : Nat → Int) (pA gA rA : Option Addr) (pc gc rc : Nat), e = .returned (.tuple #[stV pA st.n pc gA st.m gc st.lots, .slice rA st.n rc]) ∧ (1 ≤ st.n ∧ (st.n : Int) ≤ np) ∧ (1 ≤ st.m ∧ st.m ≤ 3) ∧ (1 ≤ st.lots ∧ st.lots ≤ 3) ∧ (∀ k, k < st.n → goodPk most (st.P k) (R k)) ∧ (∃ f p, goodGd st.m st.G f p) ∧
    OwnPk W' W.heap.size pA st.n st.P ∧ OwnGd W' W.heap.size gA st.m st.G ∧ OwnInt W' W.heap.size rA st.n R ∧ st.n ≤ pc ∧ st.m ≤ gc ∧ st.n ≤ rc ∧ W.grownBy W' (some cb) ∧ Chute W' B cb lA ln lc
theorem infoPkM : (Try.prog.info? 75).map (fun i => (i.zero, i.size, i.bytes)) = some (some (.agg #[.int .i64 0, .int .i64 0, .int .i64 0, .int .i64 0]), 4, 32) := by kernel_rfl
theorem infoGdM : (Try.prog.info? 82).map (fun i => (i.zero, i.size, i.bytes)) = some (some (.agg #[.int .i64 0, .int .i64 0]), 2, 16) := by kernel_rfl
theorem pksM_under : Try.prog.underlying 22 = some (.slice 75) := by kernel_rfl
theorem gdsM_under : Try.prog.underlying 23 = some (.slice 82) := by kernel_rfl

theorem pkCells_put {P : Nat → Pk} {k : Nat} (x : Pk) : numCells (pkCell P) (k * 4) ++ [.int .i64 x.s, .int .i64 x.w, .int .i64 x.o, .int .i64 x.f] = numCells (pkCell (fun j => if j = k then x else P j)) ((k + 1) * 4) := by
  rw [pkCells_succ, if_pos rfl]
  congr 1
  unfold numCells
  refine List.map_congr_left (fun j hj => ?_)
  have : j < k * 4 := by simpa using hj
  have h2 : j / 4 ≠ k := by omega
  unfold pkCell
  simp only [if_neg h2]
theorem gdCells_put {P : Nat → Gd} {k : Nat} (x : Gd) : numCells (gdCell P) (k * 2) ++ [.int .i64 x.foul, .int .i64 x.price] = numCells (gdCell (fun j => if j = k then x else P j)) ((k + 1) * 2) := by
  rw [gdCells_succ, if_pos rfl]
  congr 1
  unfold numCells
  refine List.map_congr_left (fun j hj => ?_)
  have : j < k * 2 := by simpa using hj
  have h2 : j / 2 ≠ k := by omega
  unfold gdCell
  simp only [if_neg h2]
theorem goodGd.put {k : Nat} {G : Nat → Gd} {f p x y : Int} (h : goodGd k G f p) (hx : 5 ≤ x ∧ x ≤ 20) (hy : 5 ≤ y ∧ y ≤ 13) : goodGd (k + 1) (fun j => if j = k then ⟨f, p⟩ else G j) (f + x) (p - y) := by
  obtain ⟨h1, h2, h3, h4, h5⟩ := h
  refine ⟨fun j hj => ?_, fun j hj => ?_, fun _ => ?_, by omega, by omega⟩
  · by_cases e : j = k
    · subst e; simp only [if_pos]; omega
    · simp only [if_neg e]; exact h1 j (by omega)
  · by_cases e : j + 1 = k
    · subst e
      have := h3 (by omega)
      rw [Nat.add_sub_cancel] at this
      simp only [if_pos, if_neg (show ¬ j = j + 1 by omega)]
      exact this
    · simp only [if_neg e, if_neg (show ¬ j = k by omega)]
      exact h2 j (by omega)
  · rw [Nat.add_sub_cancel]
    simp only [if_pos]
    omega
theorem goodGd.none {f p : Int} (hf : 0 ≤ f ∧ f ≤ 19) (hp : 40 ≤ p ∧ p ≤ 60) : goodGd 0 (fun _ => ⟨0, 0⟩) f p := ⟨fun j hj => absurd hj (by omega), fun j hj => absurd hj (by omega), fun h => absurd h (by omega), by omega, by omega⟩
theorem numAt_is {w : World} {a : Addr} {z : Int} (h : w.cell? a = some (.int .i64 z)) : numAt w a = z := by unfold numAt; rw [h]
/-- one picking more -/
theorem good_put {most : Int} {P : Nat → Pk} {R : Nat → Int} {k : Nat} {x : Pk} {r : Int} (h : ∀ j, j < k → goodPk most (P j) (R j)) (hx : goodPk most x r) : ∀ j, j < k + 1 → goodPk most (if j = k then x else P j) (if j = k then r else R j) := fun j hj => by
  by_cases e : j = k
  · rw [if_pos e, if_pos e]; exact hx
  · rw [if_neg e, if_neg e]; exact h j (by omega)

set_option maxRecDepth 100000 in
set_option maxHeartbeats 8000000 in
theorem made_any (np most : Int) (hnp : 1 ≤ np ∧ np ≤ 4) (hmost : 1 ≤ most ∧ most ≤ 6) (B cb : Nat) (lA : Option Addr) (ln lc : Nat) (hln : ln ≤ 9223372036854775807) (W : World) (hB : B ≤ W.heap.size) (hcb : cb < W.heap.size) (hc : Chute W B cb lA ln lc) :
    Calls Try.prog 38 #[.pointer (some ⟨cb, 0, none⟩), .int .i64 np, .int .i64 most] W (MadePost np most B cb lA ln lc W) := by
  have HC := Lib.hid hc
  clear hc
  obtain ⟨i0, hi, hz0, hz1, hz2⟩ := info_parts infoPkM
  obtain ⟨j0, ji, jz0, jz1, jz2⟩ := info_parts infoGdM
  obtain ⟨n0, ni, nz0, nz1, nz2⟩ := info_parts infoInt
  go_enter Try.func38, Try.ntmps38
  go_upto_region 3 with fail
  refine wp_world (fun W1 => ((W1.cell? ⟨W.heap.size, 0, none⟩ = some (.slice none 0 0) ∧ W1.cell? ⟨W.heap.size, 1, none⟩ = some (.slice none 0 0) ∧ W1.cell? ⟨W.heap.size, 2, none⟩ = some (.int .i64 0)) ∧ W1.frozen? ⟨W.heap.size, 0, none⟩ = false ∧ W1.frozen? ⟨W.heap.size, 1, none⟩ = false ∧ W1.frozen? ⟨W.heap.size, 2, none⟩ = false) ∧
    ((W1.cell? ⟨W.heap.size + 1, 0, none⟩ = some (.slice none 0 0) ∧ W1.cell? ⟨W.heap.size + 1, 1, none⟩ = some (.slice none 0 0) ∧ W1.cell? ⟨W.heap.size + 1, 2, none⟩ = some (.int .i64 0)) ∧ W1.frozen? ⟨W.heap.size + 1, 0, none⟩ = false ∧ W1.frozen? ⟨W.heap.size + 1, 1, none⟩ = false) ∧ W1.frozen? ⟨W.heap.size + 1, 2, none⟩ = false ∧ Below W.heap.size W W1 ∧ W1.heap.size = W.heap.size + 2) ⟨(by (repeat' refine And.intro ?_ ?_) <;> (repeat (first | (with_reducible assumption) | (simp; done) | (with_reducible refine cell_drew_of ?_) | (with_reducible refine cell_drewN_of ?_) | (with_reducible refine cell_below_of (by with_reducible assumption) ?_) | ((with_reducible refine cell_new_of ?_ ?_) <;> (first | (with_reducible rfl) | (simp; done))) | ((with_reducible refine fro_new_of ?_) <;> (first | (with_reducible rfl) | (simp; done))) | (with_reducible refine cell_alloc_of _ ?_) | (with_reducible refine cell_set_of _ (by (first | exact Nat.le_refl _ | omega | (simp; done) | (simp; omega))) ?_) | (with_reducible refine fro_drew_of ?_) | (with_reducible refine fro_drewN_of ?_) | (with_reducible refine fro_below_of (by with_reducible assumption) (by (first | exact Nat.le_refl _ | omega | (simp; done) | (simp; omega))) ?_) | (with_reducible refine fro_alloc_of _ (by (first | exact Nat.le_refl _ | omega | (simp; done) | (simp; omega))) ?_) | (with_reducible refine fro_set_of _ ?_)))), (by (repeat' refine And.intro ?_ ?_) <;> (repeat (first | (with_reducible assumption) | (simp; done) | (with_reducible refine cell_drew_of ?_) | (with_reducible refine cell_drewN_of ?_) | (with_reducible refine cell_below_of (by with_reducible assumption) ?_) | ((with_reducible refine cell_new_of ?_ ?_) <;> (first | (with_reducible rfl) | (simp; done))) | ((with_reducible refine fro_new_of ?_) <;> (first | (with_reducible rfl) | (simp; done))) | (with_reducible refine cell_alloc_of _ ?_) | (with_reducible refine cell_set_of _ (by (first | exact Nat.le_refl _ | omega | (simp; done) | (simp; omega))) ?_) | (with_reducible refine fro_drew_of ?_) | (with_reducible refine fro_drewN_of ?_) | (with_reducible refine fro_below_of (by with_reducible assumption) (by (first | exact Nat.le_refl _ | omega | (simp; done) | (simp; omega))) ?_) | (with_reducible refine fro_alloc_of _ (by (first | exact Nat.le_refl _ | omega | (simp; done) | (simp; omega))) ?_) | (with_reducible refine fro_set_of _ ?_)))), (by (repeat' refine And.intro ?_ ?_) <;> (repeat (first | (with_reducible assumption) | (simp; done) | (with_reducible refine cell_drew_of ?_) | (with_reducible refine cell_drewN_of ?_) | (with_reducible refine cell_below_of (by with_reducible assumption) ?_) | ((with_reducible refine cell_new_of ?_ ?_) <;> (first | (with_reducible rfl) | (simp; done))) | ((with_reducible refine fro_new_of ?_) <;> (first | (with_reducible rfl) | (simp; done))) | (with_reducible refine cell_alloc_of _ ?_) | (with_reducible refine cell_set_of _ (by (first | exact Nat.le_refl _ | omega | (simp; done) | (simp; omega))) ?_) | (with_reducible refine fro_drew_of ?_) | (with_reducible refine fro_drewN_of ?_) | (with_reducible refine fro_below_of (by with_reducible assumption) (by (first | exact Nat.le_refl _ | omega | (simp; done) | (simp; omega))) ?_) | (with_reducible refine fro_alloc_of _ (by (first | exact Nat.le_refl _ | omega | (simp; done) | (simp; omega))) ?_) | (with_reducible refine fro_set_of _ ?_)))), (by repeat (first | (with_reducible exact Below.refl _ _) | (with_reducible refine Below.drew ?_) | (with_reducible refine below_drewN ?_ _) | ((with_reducible refine below_alloc ?_ ?_ _); · (first | exact Nat.le_refl _ | omega | (simp; done) | (simp; omega) | (simp at *; omega))) | ((with_reducible refine below_set ?_ ?_ _); · (first | exact Nat.le_refl _ | omega | (simp; done) | (simp; omega) | (simp at *; omega))) | ((with_reducible refine below_via (by with_reducible assumption) ?_ ?_); · (first | exact Nat.le_refl _ | omega | (simp; done) | (simp; omega) | (simp at *; omega))))), by simp⟩ ?_
  rintro W1 ⟨ht, ho, hf2, hb1, hs1⟩
  have HT1 := Lib.hid (show St0 W1 W.heap.size from ht)
  have HO1 := Lib.hid (show O4 W1 (W.heap.size + 1) (.slice none 0 0) (.slice none 0 0) 0 from ⟨ho, hf2⟩)
  have HB1 := Lib.hid hb1
  have HC1 := Lib.hid (HC.out.later hb1)
  have hcb1 : cb < W1.heap.size := by omega
  clear ht ho hf2 hb1
  have hs1' := Lib.hid hs1
  have hs1a : W.heap.size + 1 < W1.heap.size := by omega
  clear hs1
  go_wp2_with fail
  refine (between_any B cb lA ln lc 1 np (by omega) (by omega) (by omega) hln _ HC1.out).mono ?_
  rintro e w2 ⟨nk, rfl, hk1, hk2, hg2, hc2⟩
  obtain ⟨nn, rfl⟩ := Int.eq_ofNat_of_zero_le (show 0 ≤ nk by omega)
  have hnn : 1 ≤ nn ∧ (nn : Int) ≤ np ∧ nn ≤ 4 := by omega
  have HG2 := Lib.hid (Gb2.one (W.heap.size + 1) hg2)
  have HC2 := Lib.hid hc2
  have HO2 := Lib.hid (HO1.out.same (hg2.block _ hs1a (fun e => by injection e with e; omega)))
  clear hg2 hc2 hk1 hk2
  go_wp2_with fail
  go_loopw [9, 19] (fun vr i wr => ∃ (k : Nat) (P : Nat → Pk) (R : Nat → Int) (v : Value), k ≤ nn ∧ i = .int .i64 k ∧ Hid (O4 wr (W.heap.size + 1) v (.slice none 0 0) 0) ∧ Hid (wr.ownsRow W1.heap.size 75 4 v k (numCells (pkCell P) (k * 4))) ∧ Hid (wr.ownsRow W1.heap.size 3 1 vr k (numCells R k)) ∧ Hid (vr.ownBlock = none ∨ vr.ownBlock ≠ v.ownBlock) ∧ Hid (∀ j, j < k → goodPk most (P j) (R j)) ∧ Hid (Chute wr B cb lA ln lc) ∧ Hid (Gb2 W1 wr cb (W.heap.size + 1))) (fun _ i _ => nn - (intOf i).toNat)
  case atStart => exact ⟨0, fun _ => ⟨0, 0, 0, 0⟩, fun _ => 0, _, Nat.zero_le _, rfl, HO2, Lib.hid (World.ownsRow_nil _ _ _ _), Lib.hid (World.ownsRow_nil _ _ _ _), Lib.hid (.inl rfl), Lib.hid (fun j hj => absurd hj (by omega)), HC2, HG2⟩
  case round =>
    clear HO2 HC2 HG2
    obtain ⟨k, P, R, v, hk, rfl, ho, hownV, hownR, hdis, hgood, hch, hg⟩ := hrel
    have hsw := hg.out.size
    by_cases hlt : k < nn
    · have hk0 : (0 : Int) ≤ (k : Int) := by omega
      have hkn : (k : Int) < (nn : Int) := by omega
      obtain ⟨wo, rfl⟩ : ∃ wo, wo = wr := ⟨_, rfl⟩
      go_wp2_with fail
      refine (between_any B cb lA ln lc 1 _ (by omega) (by omega) (by omega) hln _ hch.out).mono ?_
      rintro e w3 ⟨s, rfl, hs1, hs2, hg3, hc3⟩
      have hss : 1 ≤ s ∧ s ≤ most ∧ s ≤ 6 := by omega
      have HC3 := Lib.hid hc3
      have HG3 := Lib.hid (Gb2.one w3.heap.size hg3)
      have hs3 := hg3.size
      have ew1 : IntKind.i64.wrap (min s 3 + 1) = min s 3 + 1 := IntWalk.i64_in _ (by omega)
      clear hg3 hc3 hs1 hs2
      go_wp2_with fail
      have hba : Below w3.heap.size w3 (w3.alloc (.cells #[.int .i64 s, .int .i64 0, .int .i64 0, .int .i64 0] 75)) := (by repeat (first | (with_reducible exact Below.refl _ _) | (with_reducible refine Below.drew ?_) | (with_reducible refine below_drewN ?_ _) | ((with_reducible refine below_alloc ?_ ?_ _); · (first | exact Nat.le_refl _ | omega | (simp; done) | (simp; omega) | (simp at *; omega))) | ((with_reducible refine below_set ?_ ?_ _); · (first | exact Nat.le_refl _ | omega | (simp; done) | (simp; omega) | (simp at *; omega))) | ((with_reducible refine below_via (by with_reducible assumption) ?_ ?_); · (first | exact Nat.le_refl _ | omega | (simp; done) | (simp; omega) | (simp at *; omega)))))
      have HP3 : Hid (PkAt (w3.alloc (.cells #[.int .i64 s, .int .i64 0, .int .i64 0, .int .i64 0] 75)) w3.heap.size ⟨s, 0, 0, 0⟩) := Lib.hid (by (repeat' refine And.intro ?_ ?_) <;> (repeat (first | (with_reducible assumption) | (simp; done) | (with_reducible refine cell_drew_of ?_) | (with_reducible refine cell_drewN_of ?_) | (with_reducible refine cell_below_of (by with_reducible assumption) ?_) | ((with_reducible refine cell_new_of ?_ ?_) <;> (first | (with_reducible rfl) | (simp; done))) | ((with_reducible refine fro_new_of ?_) <;> (first | (with_reducible rfl) | (simp; done))) | (with_reducible refine cell_alloc_of _ ?_) | (with_reducible refine cell_set_of _ (by (first | exact Nat.le_refl _ | omega | (simp; done) | (simp; omega))) ?_) | (with_reducible refine fro_drew_of ?_) | (with_reducible refine fro_drewN_of ?_) | (with_reducible refine fro_below_of (by with_reducible assumption) (by (first | exact Nat.le_refl _ | omega | (simp; done) | (simp; omega))) ?_) | (with_reducible refine fro_alloc_of _ (by (first | exact Nat.le_refl _ | omega | (simp; done) | (simp; omega))) ?_) | (with_reducible refine fro_set_of _ ?_))))
      refine (pull_any B cb lA ln lc (min s 3 + 1) (by omega) hln _ (HC3.out.later hba)).mono ?_
      rintro e w4 ⟨w, rfl, hw0, hw1, hg4, hc4⟩
      have hww : 0 ≤ w ∧ w ≤ min s 3 := by omega
      have HP4 := Lib.hid (HP3.out.same (hg4.block _ (by simp) (fun e => by injection e with e; omega)))
      have HG4 := Lib.hid (HG3.out.trans ((Gb2.below cb w3.heap.size hba).trans (Gb2.one w3.heap.size hg4)))
      have hs4 := hg4.size
      simp only [World.size_alloc] at hs4
      have HC4 := Lib.hid (hc4.keep (w' := w4.setCell ⟨w3.heap.size, 1, none⟩ (.int .i64 w)) (fun i hi => Below.heap_setCell _ _ _ _ (by dsimp only; omega)))
      have HP5 := Lib.hid (HP4.out.set1 w)
      have HGS := Lib.hid (HG4.out.trans (Gb2.two cb (gb_set w4 w3.heap.size 1 (.int .i64 w))))
      have ew2 : IntKind.i64.wrap (w + 1) = w + 1 := IntWalk.i64_in _ (by omega)
      obtain ⟨⟨c0, c1, c2, c3⟩, f1, f2, f3⟩ := HP4.out
      clear hba hg4 hc4 hw0 hw1 HG3 HG4 HC3 HP3
      go_wp2_with fail
      refine (pull_any B cb lA ln lc (w + 1) (by omega) hln _ HC4.out).mono ?_
      rintro e w5 ⟨r, rfl, hr0, hr1, hg5, hc5⟩
      have hrr : 0 ≤ r ∧ r ≤ w := by omega
      have hs5 := hg5.size
      simp only [setCell_sz] at hs5
      have HP := Lib.hid (HP5.out.same (hg5.block _ (by simp [setCell_sz]; omega) (fun e => by injection e with e; omega)))
      have HG5 := Lib.hid (HGS.out.trans (Gb2.one w3.heap.size hg5))
      have HC5 := Lib.hid hc5
      have HSB : Hid (∀ wy, Gb2 w5 wy cb w3.heap.size → ∀ i, i < wo.heap.size → i ≠ cb → i ≠ w3.heap.size → wy.heap[i]? = wo.heap[i]?) := Lib.hid (fun wy h i hi h1 h2 => (h.block i (by have := HG5.out.size; omega) h1 h2).trans (HG5.out.block i hi h1 h2))
      clear hg5 hc5 hr0 hr1 c0 c1 c2 c3 f1 f2 f3 HP4 HP5 HGS HC4
      go_wp2_with fail
      go_loopw [12] (fun l wy => ∃ (o f : Int), l = .int .i64 (r - f) ∧ Hid (PkAt wy w3.heap.size ⟨s, w, o, f⟩) ∧ Hid ((0 ≤ f ∧ f ≤ o) ∧ o ≤ s ∧ f ≤ r ∧ o - f ≤ s - r) ∧ Hid (Chute wy B cb lA ln lc) ∧ Hid (Gb2 w5 wy cb w3.heap.size)) (fun _ wy => 7 - (numAt wy ⟨w3.heap.size, 2, none⟩).toNat)
      case atStart => exact ⟨0, 0, by simp, HP, Lib.hid (by omega), HC5, Lib.hid (Gb2.refl _ _ _)⟩
      case round =>
        clear HP HC5
        obtain ⟨o, f, rfl, HPK, hof, HCH, HGB⟩ := hrel
        obtain ⟨wy, rfl⟩ : ∃ wy, wy = wr := ⟨_, rfl⟩
        have hofo := hof.out
        by_cases hos : o < s
        · obtain ⟨⟨c0, c1, c2, c3⟩, f1, f2, f3⟩ := HPK.out
          go_wp2_with fail
          refine (chin_any B cb lA ln lc 3 (by omega) hln _ HCH.out).mono ?_
          rintro e w6 ⟨b, rfl, hg6, hc6⟩
          have HC6 := Lib.hid hc6
          have HG6 := Lib.hid (HGB.out.trans (Gb2.one w3.heap.size hg6))
          have HP6 := Lib.hid (HPK.out.same (hg6.block _ HPK.out.lt (fun e => by injection e with e; omega)))
          have HN6 := Lib.hid (numAt_is c2)
          clear hg6 hc6 c0 c1 c2 c3 f1 f2 f3
          cases b with
          | true =>
            clear HPK HCH HGB
            have HPK := HP6
            have HCH := HC6
            have HGB := HG6
            have HSW := Lib.hid (show Gb2 wo w6 cb (W.heap.size + 1) from (HG5.out.trans HGB.out).swap (by omega))
            have hsy := HGB.out.size
            have hW1y : W1.heap.size ≤ w6.heap.size := by have := HSW.out.size; omega
            have hof2 := hof.out
            have hxg := Lib.hid (show goodPk most ⟨s, w, o, f⟩ r by unfold goodPk; dsimp only; omega)
            have HOY := Lib.hid (ho.out.same (HSB.out w6 HGB.out _ (by omega) (by omega) (by omega)))
            have HVY := Lib.hid (owns_same hownV.out (fun g h1 h2 => HSB.out w6 HGB.out g h2 (by omega) (by omega)))
            have HRY := Lib.hid (owns_same hownR.out (fun g h1 h2 => HSB.out w6 HGB.out g h2 (by omega) (by omega)))
            have hvV := hownV.out.lt
            have hvR := hownR.out.lt
            obtain ⟨⟨q0, q1, q2⟩, fq0, fq1⟩ := HOY.out.1
            obtain ⟨⟨c0, c1, c2, c3⟩, _⟩ := HPK.out
            go_wp2_with (at_builtin; first | (refine wpList_append_lies _ rfl (.tmp 80) (.tmp 82) 22 rfl W1.heap.size 75 i0 (.agg #[.int .i64 0, .int .i64 0, .int .i64 0, .int .i64 0]) 4 32 pksM_under hi hz0 hz1 hz2 rfl (by decide) v k (numCells (pkCell P) (k * 4)) rfl (HVY.out.alloc _) ⟨w6.heap.size, 0, none⟩ 1 1 [.int .i64 s, .int .i64 w, .int .i64 o, .int .i64 f] rfl rfl (new_cells (cs := [.int .i64 s, .int .i64 w, .int .i64 o, .int .i64 f])) (by intro u hu; simp only [List.mem_cons, List.not_mem_nil, or_false] at hu; rcases hu with rfl | rfl | rfl | rfl <;> rfl) (by omega) (by unfold maxLen; omega) (by omega) (by simp; omega) (w6.heap.size + 1) (by simp) ?_; intro gV capV wV hownV6 hgrV hatV hltV; have hzV := hgrV.size; simp only [World.size_alloc] at hzV; have hXV : Hid (∀ i, i < W1.heap.size → wV.heap[i]? = w6.heap[i]?) := Lib.hid (fun i hi => (hgrV.block i (by simp; omega) (fun e => by have := (hvV i e.symm).1; omega)).trans (Below.heap_alloc _ _ _ (by omega)))) | (refine wpList_append_lies _ rfl (.tmp 84) (.tmp 86) 26 rfl W1.heap.size 3 n0 (.int .i64 0) 1 8 ints_under ni nz0 nz1 nz2 rfl (by decide) u9 k (numCells R k) rfl (((HRY.out.alloc _).kept hgrV hdis.out).alloc _) ⟨wV.heap.size, 0, none⟩ 1 1 [.int .i64 r] rfl rfl (new_cells (cs := [.int .i64 r])) (by intro u hu; simp only [List.mem_cons, List.not_mem_nil, or_false] at hu; subst hu; rfl) (by omega) (by unfold maxLen; omega) (by omega) (by simp; omega) (wV.heap.size + 1) (by simp) ?_; intro gR capR wR hownR6 hgrR hatR hltR; have hzR := hgrR.size; simp only [World.size_alloc] at hzR; have hXR : Hid (∀ i, i < W1.heap.size → wR.heap[i]? = w6.heap[i]?) := Lib.hid (fun i hi => (hgrR.block i (by simp; omega) (fun e => by have := (hvR i e.symm).1; omega)).trans ((Below.heap_alloc _ _ _ (by omega)).trans (hXV.out i hi))); obtain ⟨⟨p0, p1, p2⟩, fp0, fp1⟩ := (HOY.out.same (hXR.out _ hs1a)).1) | fail)
            have hneV : ∀ g, u9.ownBlock = some g → g ≠ gV := fun g hgg e => by
              subst e
              have h1 := hvR g hgg
              rcases hatV with h | h
              · rcases hdis.out with h2 | h2
                · rw [hgg] at h2; cases h2
                · exact h2 (hgg.trans h.symm)
              · have := HG5.out.size
                omega
            have HOF := Lib.hid ((HOY.out.same (hXR.out _ hs1a)).set0 (.slice (some ⟨gV, 0, none⟩) (k + 1) capV))
            have HVF : Hid ((wR.setCell ⟨W.heap.size + 1, 0, none⟩ (.slice (some ⟨gV, 0, none⟩) (k + 1) capV)).ownsRow W1.heap.size 75 4 (.slice (some ⟨gV, 0, none⟩) (k + 1) capV) (k + 1) (numCells (pkCell (fun j => if j = k then ⟨s, w, o, f⟩ else P j)) ((k + 1) * 4))) := Lib.hid (by
              rw [← pkCells_put]
              exact owns_same ((hownV6.alloc _).kept hgrR (.inr (fun e => hneV gV e.symm rfl))) (fun g h1 h2 => set_heap _ (by dsimp only; omega)))
            have HRF : Hid ((wR.setCell ⟨W.heap.size + 1, 0, none⟩ (.slice (some ⟨gV, 0, none⟩) (k + 1) capV)).ownsRow W1.heap.size 3 1 (.slice (some ⟨gR, 0, none⟩) (k + 1) capR) (k + 1) (numCells (fun j => if j = k then r else R j) (k + 1))) := Lib.hid (by
              rw [← numCells_put]
              exact owns_same hownR6 (fun g h1 h2 => set_heap _ (by dsimp only; omega)))
            have HDF : Hid ((Value.slice (some ⟨gR, 0, none⟩) (k + 1) capR).ownBlock = none ∨ (Value.slice (some ⟨gR, 0, none⟩) (k + 1) capR).ownBlock ≠ (Value.slice (some ⟨gV, 0, none⟩) (k + 1) capV).ownBlock) := Lib.hid (.inr (fun e => by
              injection e with e
              rcases hatR with h | h
              · exact hneV gR h e
              · dsimp only at e; omega))
            have HCF : Hid (Chute (wR.setCell ⟨W.heap.size + 1, 0, none⟩ (.slice (some ⟨gV, 0, none⟩) (k + 1) capV)) B cb lA ln lc) := Lib.hid (HCH.out.keep (fun i hi => (set_heap _ (by dsimp only; omega)).trans (hXR.out i (by omega))))
            have HGF : Hid (Gb2 W1 (wR.setCell ⟨W.heap.size + 1, 0, none⟩ (.slice (some ⟨gV, 0, none⟩) (k + 1) capV)) cb (W.heap.size + 1)) := Lib.hid (by
              have h1 := hg.out.trans HSW.out
              exact ⟨(hgrR.os.trans hgrV.os).trans h1.os, (hgrR.tape.trans hgrV.tape).trans h1.tape, (hgrR.output.trans hgrV.output).trans h1.output, by rw [setCell_sz]; omega, fun i hi h2 h3 => (set_heap _ (by dsimp only; omega)).trans ((hXR.out i hi).trans (h1.block i hi h2 h3))⟩)
            have HGD := Lib.hid (good_put hgood.out hxg.out)
            clear hownV6 hgrV hatV hltV hownR6 hgrR hatR hltR hXV hXR p0 p1 p2 fp0 fp1 q0 q1 q2 fq0 fq1 c0 c1 c2 c3 hneV
            refine ⟨?_, ?measure⟩
            case measure => simp [intOf]; omega
            exact ⟨k + 1, _, _, _, by omega, by go_num, HOF, HVF, HRF, HDF, HGD, HCF, HGF⟩
          | false =>
            have e1 : IntKind.i64.wrap (s - r) = s - r := IntWalk.i64_in _ (by omega)
            have e2 : IntKind.i64.wrap (o - f) = o - f := IntWalk.i64_in _ (by omega)
            have e3 : IntKind.i64.wrap (s - r - (o - f)) = s - r - (o - f) := IntWalk.i64_in _ (by omega)
            have e4 : IntKind.i64.wrap (r - f - 1) = r - f - 1 := IntWalk.i64_in _ (by omega)
            have e5 : IntKind.i64.wrap (f + 1) = f + 1 := IntWalk.i64_in _ (by omega)
            have e6 : IntKind.i64.wrap (o + 1) = o + 1 := IntWalk.i64_in _ (by omega)
            clear HPK HCH HGB
            by_cases hl : 0 < r - f
            · by_cases hcl : s - r - (o - f) = 0
              · have hcb2 : (s - r - (o - f) == 0) = true := by rw [beq_iff_eq]; exact hcl
                have hcl' := Lib.hid hcl
                have HPt := HP6
                have HCt := HC6
                have HGt := HG6
                clear hcl
                obtain ⟨⟨c0, c1, c2, c3⟩, f1, f2, f3⟩ := HPt.out
                have x3 := cell_regrown c3
                go_upto_region 13 with fail
                refine region_qbt 7 (by kernel_rfl) (by kernel_rfl) ?_
                simp only [List.take_succ_cons, List.take_zero, List.drop_succ_cons, List.drop_zero]
                repeat (first | go_big_quiet_step (fail) | quiet_step (fail))
                refine wpQuiet_nil ?_; intro wq hbq
                have HPq := Lib.hid (HPt.out.same (hbq.block _ HPt.out.lt))
                have HCq := Lib.hid (HCt.out.later hbq)
                have HGq := Lib.hid (HGt.out.trans (Gb2.below cb w3.heap.size hbq))
                clear x3 c0 c1 c2 c3 f1 f2 f3 hbq
                obtain ⟨⟨c0, c1, c2, c3⟩, f1, f2, f3⟩ := HPq.out
                have HPf := Lib.hid ((HPq.out.set3 (f + 1)).set2 (o + 1))
                have HCf := Lib.hid (HCq.out.keep (w' := (wq.setCell ⟨w3.heap.size, 3, none⟩ (.int .i64 (f + 1))).setCell ⟨w3.heap.size, 2, none⟩ (.int .i64 (o + 1))) (fun i hi => (set_heap _ (by dsimp only; omega)).trans (set_heap _ (by dsimp only; omega))))
                have HGf := Lib.hid (HGq.out.trans (Gb2.two cb (gb_trans (gb_set wq w3.heap.size 3 (.int .i64 (f + 1))) (gb_set _ w3.heap.size 2 (.int .i64 (o + 1))))))
                have HNf := Lib.hid (numAt_is HPf.out.1.2.2.1)
                go_wp2_with fail
                refine ⟨?_, ?measure⟩
                case measure => rw [HNf.out, HN6.out]; (try dsimp only); omega
                exact ⟨o + 1, f + 1, by congr 1; omega, HPf, Lib.hid (by omega), HCf, HGf⟩
              · have hcb2 : (s - r - (o - f) == 0) = false := by rw [beq_eq_false_iff_ne]; exact hcl
                have hcl' := Lib.hid hcl
                obtain ⟨⟨c0, c1, c2, c3⟩, f1, f2, f3⟩ := HP6.out
                clear hcl
                go_wp2_with fail
                refine (chin_any B cb lA ln lc 3 (by omega) hln _ HC6.out).mono ?_
                rintro e w7 ⟨b2, rfl, hg7, hc7⟩
                have HCt := Lib.hid hc7
                have HGt := Lib.hid (HG6.out.trans (Gb2.one w3.heap.size hg7))
                have HPt := Lib.hid (HP6.out.same (hg7.block _ HP6.out.lt (fun e => by injection e with e; omega)))
                clear hg7 hc7 c0 c1 c2 c3 f1 f2 f3
                cases b2 with
                | true =>
                  obtain ⟨⟨c0, c1, c2, c3⟩, f1, f2, f3⟩ := HPt.out
                  have x3 := cell_regrown c3
                  go_upto_region 13 with fail
                  refine region_qbt 7 (by kernel_rfl) (by kernel_rfl) ?_
                  simp only [List.take_succ_cons, List.take_zero, List.drop_succ_cons, List.drop_zero]
                  repeat (first | go_big_quiet_step (fail) | quiet_step (fail))
                  refine wpQuiet_nil ?_; intro wq hbq
                  have HPq := Lib.hid (HPt.out.same (hbq.block _ HPt.out.lt))
                  have HCq := Lib.hid (HCt.out.later hbq)
                  have HGq := Lib.hid (HGt.out.trans (Gb2.below cb w3.heap.size hbq))
                  clear x3 c0 c1 c2 c3 f1 f2 f3 hbq
                  obtain ⟨⟨c0, c1, c2, c3⟩, f1, f2, f3⟩ := HPq.out
                  have HPf := Lib.hid ((HPq.out.set3 (f + 1)).set2 (o + 1))
                  have HCf := Lib.hid (HCq.out.keep (w' := (wq.setCell ⟨w3.heap.size, 3, none⟩ (.int .i64 (f + 1))).setCell ⟨w3.heap.size, 2, none⟩ (.int .i64 (o + 1))) (fun i hi => (set_heap _ (by dsimp only; omega)).trans (set_heap _ (by dsimp only; omega))))
                  have HGf := Lib.hid (HGq.out.trans (Gb2.two cb (gb_trans (gb_set wq w3.heap.size 3 (.int .i64 (f + 1))) (gb_set _ w3.heap.size 2 (.int .i64 (o + 1))))))
                  have HNf := Lib.hid (numAt_is HPf.out.1.2.2.1)
                  go_wp2_with fail
                  refine ⟨?_, ?measure⟩
                  case measure => rw [HNf.out, HN6.out]; (try dsimp only); omega
                  exact ⟨o + 1, f + 1, by congr 1; omega, HPf, Lib.hid (by omega), HCf, HGf⟩
                | false =>
                  have hcn := hcl'.out
                  obtain ⟨⟨c0, c1, c2, c3⟩, f1, f2, f3⟩ := HPt.out
                  have HPf := Lib.hid (HPt.out.set2 (o + 1))
                  have HCf := Lib.hid (HCt.out.keep (w' := w7.setCell ⟨w3.heap.size, 2, none⟩ (.int .i64 (o + 1))) (fun i hi => set_heap _ (by dsimp only; omega)))
                  have HGf := Lib.hid (HGt.out.trans (Gb2.two cb (gb_set w7 w3.heap.size 2 (.int .i64 (o + 1)))))
                  have HNf := Lib.hid (numAt_is HPf.out.1.2.2.1)
                  go_wp2_with fail
                  refine ⟨?_, ?measure⟩
                  case measure => rw [HNf.out, HN6.out]; (try dsimp only); omega
                  exact ⟨o + 1, f, rfl, HPf, Lib.hid (by omega), HCf, HGf⟩
            · have hcn : s - r - (o - f) ≠ 0 := by omega
              have HPt := HP6
              have HCt := HC6
              have HGt := HG6
              obtain ⟨⟨c0, c1, c2, c3⟩, f1, f2, f3⟩ := HPt.out
              have HPf := Lib.hid (HPt.out.set2 (o + 1))
              have HCf := Lib.hid (HCt.out.keep (w' := w6.setCell ⟨w3.heap.size, 2, none⟩ (.int .i64 (o + 1))) (fun i hi => set_heap _ (by dsimp only; omega)))
              have HGf := Lib.hid (HGt.out.trans (Gb2.two cb (gb_set w6 w3.heap.size 2 (.int .i64 (o + 1)))))
              have HNf := Lib.hid (numAt_is HPf.out.1.2.2.1)
              go_wp2_with fail
              refine ⟨?_, ?measure⟩
              case measure => rw [HNf.out, HN6.out]; (try dsimp only); omega
              exact ⟨o + 1, f, rfl, HPf, Lib.hid (by omega), HCf, HGf⟩
        · have hge : ¬ o < s := hos
          have HSW := Lib.hid (show Gb2 wo wy cb (W.heap.size + 1) from (HG5.out.trans HGB.out).swap (by omega))
          have hsy := HGB.out.size
          have hW1y : W1.heap.size ≤ wy.heap.size := by have := HSW.out.size; omega
          have hof2 := hof.out
          have hxg := Lib.hid (show goodPk most ⟨s, w, o, f⟩ r by unfold goodPk; dsimp only; omega)
          have HOY := Lib.hid (ho.out.same (HSB.out wy HGB.out _ (by omega) (by omega) (by omega)))
          have HVY := Lib.hid (owns_same hownV.out (fun g h1 h2 => HSB.out wy HGB.out g h2 (by omega) (by omega)))
          have HRY := Lib.hid (owns_same hownR.out (fun g h1 h2 => HSB.out wy HGB.out g h2 (by omega) (by omega)))
          have hvV := hownV.out.lt
          have hvR := hownR.out.lt
          obtain ⟨⟨q0, q1, q2⟩, fq0, fq1⟩ := HOY.out.1
          obtain ⟨⟨c0, c1, c2, c3⟩, _⟩ := HPK.out
          go_wp2_with (at_builtin; first | (refine wpList_append_lies _ rfl (.tmp 80) (.tmp 82) 22 rfl W1.heap.size 75 i0 (.agg #[.int .i64 0, .int .i64 0, .int .i64 0, .int .i64 0]) 4 32 pksM_under hi hz0 hz1 hz2 rfl (by decide) v k (numCells (pkCell P) (k * 4)) rfl (HVY.out.alloc _) ⟨wy.heap.size, 0, none⟩ 1 1 [.int .i64 s, .int .i64 w, .int .i64 o, .int .i64 f] rfl rfl (new_cells (cs := [.int .i64 s, .int .i64 w, .int .i64 o, .int .i64 f])) (by intro u hu; simp only [List.mem_cons, List.not_mem_nil, or_false] at hu; rcases hu with rfl | rfl | rfl | rfl <;> rfl) (by omega) (by unfold maxLen; omega) (by omega) (by simp; omega) (wy.heap.size + 1) (by simp) ?_; intro gV capV wV hownV6 hgrV hatV hltV; have hzV := hgrV.size; simp only [World.size_alloc] at hzV; have hXV : Hid (∀ i, i < W1.heap.size → wV.heap[i]? = wy.heap[i]?) := Lib.hid (fun i hi => (hgrV.block i (by simp; omega) (fun e => by have := (hvV i e.symm).1; omega)).trans (Below.heap_alloc _ _ _ (by omega)))) | (refine wpList_append_lies _ rfl (.tmp 84) (.tmp 86) 26 rfl W1.heap.size 3 n0 (.int .i64 0) 1 8 ints_under ni nz0 nz1 nz2 rfl (by decide) u9 k (numCells R k) rfl (((HRY.out.alloc _).kept hgrV hdis.out).alloc _) ⟨wV.heap.size, 0, none⟩ 1 1 [.int .i64 r] rfl rfl (new_cells (cs := [.int .i64 r])) (by intro u hu; simp only [List.mem_cons, List.not_mem_nil, or_false] at hu; subst hu; rfl) (by omega) (by unfold maxLen; omega) (by omega) (by simp; omega) (wV.heap.size + 1) (by simp) ?_; intro gR capR wR hownR6 hgrR hatR hltR; have hzR := hgrR.size; simp only [World.size_alloc] at hzR; have hXR : Hid (∀ i, i < W1.heap.size → wR.heap[i]? = wy.heap[i]?) := Lib.hid (fun i hi => (hgrR.block i (by simp; omega) (fun e => by have := (hvR i e.symm).1; omega)).trans ((Below.heap_alloc _ _ _ (by omega)).trans (hXV.out i hi))); obtain ⟨⟨p0, p1, p2⟩, fp0, fp1⟩ := (HOY.out.same (hXR.out _ hs1a)).1) | fail)
          have hneV : ∀ g, u9.ownBlock = some g → g ≠ gV := fun g hgg e => by
            subst e
            have h1 := hvR g hgg
            rcases hatV with h | h
            · rcases hdis.out with h2 | h2
              · rw [hgg] at h2; cases h2
              · exact h2 (hgg.trans h.symm)
            · have := HG5.out.size
              omega
          have HOF := Lib.hid ((HOY.out.same (hXR.out _ hs1a)).set0 (.slice (some ⟨gV, 0, none⟩) (k + 1) capV))
          have HVF : Hid ((wR.setCell ⟨W.heap.size + 1, 0, none⟩ (.slice (some ⟨gV, 0, none⟩) (k + 1) capV)).ownsRow W1.heap.size 75 4 (.slice (some ⟨gV, 0, none⟩) (k + 1) capV) (k + 1) (numCells (pkCell (fun j => if j = k then ⟨s, w, o, f⟩ else P j)) ((k + 1) * 4))) := Lib.hid (by
            rw [← pkCells_put]
            exact owns_same ((hownV6.alloc _).kept hgrR (.inr (fun e => hneV gV e.symm rfl))) (fun g h1 h2 => set_heap _ (by dsimp only; omega)))
          have HRF : Hid ((wR.setCell ⟨W.heap.size + 1, 0, none⟩ (.slice (some ⟨gV, 0, none⟩) (k + 1) capV)).ownsRow W1.heap.size 3 1 (.slice (some ⟨gR, 0, none⟩) (k + 1) capR) (k + 1) (numCells (fun j => if j = k then r else R j) (k + 1))) := Lib.hid (by
            rw [← numCells_put]
            exact owns_same hownR6 (fun g h1 h2 => set_heap _ (by dsimp only; omega)))
          have HDF : Hid ((Value.slice (some ⟨gR, 0, none⟩) (k + 1) capR).ownBlock = none ∨ (Value.slice (some ⟨gR, 0, none⟩) (k + 1) capR).ownBlock ≠ (Value.slice (some ⟨gV, 0, none⟩) (k + 1) capV).ownBlock) := Lib.hid (.inr (fun e => by
            injection e with e
            rcases hatR with h | h
            · exact hneV gR h e
            · dsimp only at e; omega))
          have HCF : Hid (Chute (wR.setCell ⟨W.heap.size + 1, 0, none⟩ (.slice (some ⟨gV, 0, none⟩) (k + 1) capV)) B cb lA ln lc) := Lib.hid (HCH.out.keep (fun i hi => (set_heap _ (by dsimp only; omega)).trans (hXR.out i (by omega))))
          have HGF : Hid (Gb2 W1 (wR.setCell ⟨W.heap.size + 1, 0, none⟩ (.slice (some ⟨gV, 0, none⟩) (k + 1) capV)) cb (W.heap.size + 1)) := Lib.hid (by
            have h1 := hg.out.trans HSW.out
            exact ⟨(hgrR.os.trans hgrV.os).trans h1.os, (hgrR.tape.trans hgrV.tape).trans h1.tape, (hgrR.output.trans hgrV.output).trans h1.output, by rw [setCell_sz]; omega, fun i hi h2 h3 => (set_heap _ (by dsimp only; omega)).trans ((hXR.out i hi).trans (h1.block i hi h2 h3))⟩)
          have HGD := Lib.hid (good_put hgood.out hxg.out)
          clear hownV6 hgrV hatV hltV hownR6 hgrR hatR hltR hXV hXR p0 p1 p2 fp0 fp1 q0 q1 q2 fq0 fq1 c0 c1 c2 c3 hneV
          refine ⟨?_, ?measure⟩
          case measure => simp [intOf]; omega
          exact ⟨k + 1, _, _, _, by omega, by go_num, HOF, HVF, HRF, HDF, HGD, HCF, HGF⟩
    · obtain rfl : k = nn := by omega
      have hge : ¬ (k : Int) < (k : Int) := by omega
      obtain ⟨pA, pc, rfl, hop, hpc⟩ := OwnPk.of_ownsT (P := P) hownV.out
      obtain ⟨rA, rc, rfl, hor, hrc⟩ := ownInt_of hownR.out
      have HOP := Lib.hid hop
      have HOR := Lib.hid hor
      clear hop hor hownV hownR hdis
      obtain ⟨wo, rfl⟩ : ∃ wo, wo = wr := ⟨_, rfl⟩
      go_wp2_with fail
      refine (pull_any B cb lA ln lc 20 (by omega) hln _ hch.out).mono ?_
      rintro e w3 ⟨f0, rfl, hf0, hf1, hg3, hc3⟩
      have HC3 := Lib.hid hc3
      have HG3 := Lib.hid (Gb2.one (W.heap.size + 1) hg3)
      have HO3 := Lib.hid (ho.out.same (hg3.block _ (by omega) (fun e => by injection e with e; omega)))
      have hs3 := hg3.size
      clear hg3 hc3
      go_wp2_with fail
      refine (between_any B cb lA ln lc 40 60 (by omega) (by omega) (by omega) hln _ HC3.out).mono ?_
      rintro e w4 ⟨p0, rfl, hp0, hp1, hg4, hc4⟩
      have HC4 := Lib.hid hc4
      have HG4 := Lib.hid (HG3.out.trans (Gb2.one (W.heap.size + 1) hg4))
      have HO4 := Lib.hid (HO3.out.same (hg4.block _ (by omega) (fun e => by injection e with e; omega)))
      have hs4 := hg4.size
      clear hg4 hc4
      have HGD0 := Lib.hid (goodGd.none (f := f0) (p := p0) (by omega) (by omega))
      go_wp2_with fail
      refine (between_any B cb lA ln lc 1 3 (by omega) (by omega) (by omega) hln _ HC4.out).mono ?_
      rintro e w5 ⟨mk, rfl, hm0, hm1, hg5, hc5⟩
      obtain ⟨mm, rfl⟩ := Int.eq_ofNat_of_zero_le (show 0 ≤ mk by omega)
      have hmm : 1 ≤ mm ∧ mm ≤ 3 := by omega
      have HC5 := Lib.hid hc5
      have HG5 := Lib.hid (HG4.out.trans (Gb2.one (W.heap.size + 1) hg5))
      have hs5 := HG5.out.size
      have HO5 := Lib.hid (HO4.out.same (hg5.block _ (by omega) (fun e => by injection e with e; omega)))
      have HOP5 := Lib.hid (HOP.out.keep (w' := w5) (fun b h1 h2 => HG5.out.block b h2 (by omega) (by omega)))
      have HOR5 := Lib.hid (HOR.out.keep (w' := w5) (fun b h1 h2 => HG5.out.block b h2 (by omega) (by omega)))
      have HGW := Lib.hid (hg.out.trans HG5.out)
      clear hg5 hc5 hm0 hm1 HO3 HO4 HG3 HG4 HG5 HC3 HC4 HOP HOR ho hch hf0 hf1 hp0 hp1 hg hs3 hs4
      have hs6 : W1.heap.size ≤ w5.heap.size := HGW.out.size
      go_wp2_with fail
      go_loopw [14, 15, 96] (fun a b i wr => ∃ (j : Nat) (G : Nat → Gd) (fo pr : Int) (v : Value), j ≤ mm ∧ i = .int .i64 j ∧ a = .int .i64 fo ∧ b = .int .i64 pr ∧ Hid (O4 wr (W.heap.size + 1) (.slice pA k pc) v 0) ∧ Hid (wr.ownsRow w5.heap.size 82 2 v j (numCells (gdCell G) (j * 2))) ∧ Hid (goodGd j G fo pr) ∧ Hid (Chute wr B cb lA ln lc) ∧ Hid (Gb2 w5 wr cb (W.heap.size + 1))) (fun _ _ i _ => mm - (intOf i).toNat)
      case atStart => exact ⟨0, fun _ => ⟨0, 0⟩, f0, p0, _, Nat.zero_le _, rfl, rfl, rfl, HO5, Lib.hid (World.ownsRow_nil _ _ _ _), HGD0, HC5, Lib.hid (Gb2.refl _ _ _)⟩
      case round =>
        clear HO5 HGD0 HC5
        obtain ⟨j, G, fo, pr, v, hj, rfl, rfl, rfl, HO, HOW, HGG, HCH, HG⟩ := hrel
        have hsr := HG.out.size
        obtain ⟨wy, rfl⟩ : ∃ wy, wy = wr := ⟨_, rfl⟩
        by_cases hlj : j < mm
        · have hj0 : (0 : Int) ≤ (j : Int) := by omega
          have hjn : (j : Int) < (mm : Int) := by omega
          have hvV := HOW.out.lt
          have hgg := HGG.out.2.2.2
          obtain ⟨⟨q0, q1, q2⟩, fq0, fq1⟩ := HO.out.1
          go_wp2_with (at_builtin; refine wpList_append_lies _ rfl (.tmp 99) (.tmp 103) 23 rfl w5.heap.size 82 j0 (.agg #[.int .i64 0, .int .i64 0]) 2 16 gdsM_under ji jz0 jz1 jz2 rfl (by decide) v j (numCells (gdCell G) (j * 2)) rfl (HOW.out.alloc _) ⟨wy.heap.size, 0, none⟩ 1 1 [.int .i64 fo, .int .i64 pr] rfl rfl (new_cells (cs := [.int .i64 fo, .int .i64 pr])) (by intro u hu; simp only [List.mem_cons, List.not_mem_nil, or_false] at hu; rcases hu with rfl | rfl <;> rfl) (by omega) (by unfold maxLen; omega) (by omega) (by simp; omega) (wy.heap.size + 1) (by simp) ?_; intro gV capV wV hownV6 hgrV hatV hltV; have hzV := hgrV.size; simp only [World.size_alloc] at hzV; have hXV : Hid (∀ i, i < w5.heap.size → wV.heap[i]? = wy.heap[i]?) := Lib.hid (fun i hi => (hgrV.block i (by simp; omega) (fun e => by have := (hvV i e.symm).1; omega)).trans (Below.heap_alloc _ _ _ (by omega))); obtain ⟨⟨p0', p1', p2'⟩, fp0, fp1⟩ := (HO.out.same (hXV.out _ (by omega))).1)
          have HOS := Lib.hid ((HO.out.same (hXV.out _ (by omega))).set1 (.slice (some ⟨gV, 0, none⟩) (j + 1) capV))
          have HVS : Hid ((wV.setCell ⟨W.heap.size + 1, 1, none⟩ (.slice (some ⟨gV, 0, none⟩) (j + 1) capV)).ownsRow w5.heap.size 82 2 (.slice (some ⟨gV, 0, none⟩) (j + 1) capV) (j + 1) (numCells (gdCell (fun i => if i = j then ⟨fo, pr⟩ else G i)) ((j + 1) * 2))) := Lib.hid (by
            rw [← gdCells_put]
            exact owns_same hownV6 (fun g h1 h2 => set_heap _ (by dsimp only; omega)))
          have HCS := Lib.hid (HCH.out.keep (w' := wV.setCell ⟨W.heap.size + 1, 1, none⟩ (.slice (some ⟨gV, 0, none⟩) (j + 1) capV)) (fun i hi => (set_heap _ (by dsimp only; omega)).trans (hXV.out i (by omega))))
          have HGS : Hid (Gb2 w5 (wV.setCell ⟨W.heap.size + 1, 1, none⟩ (.slice (some ⟨gV, 0, none⟩) (j + 1) capV)) cb (W.heap.size + 1)) := Lib.hid ⟨hgrV.os.trans HG.out.os, hgrV.tape.trans HG.out.tape, hgrV.output.trans HG.out.output, by rw [setCell_sz]; omega, fun i hi h2 h3 => (set_heap _ (by dsimp only; omega)).trans ((hXV.out i hi).trans (HG.out.block i hi h2 h3))⟩
          clear hownV6 hgrV hatV hltV hXV p0' p1' p2' fp0 fp1 q0 q1 q2 fq0 fq1
          refine (between_any B cb lA ln lc 5 20 (by omega) (by omega) (by omega) hln _ HCS.out).mono ?_
          rintro e w6 ⟨x, rfl, hx0, hx1, hg6, hc6⟩
          have hs7 := hg6.size
          simp only [setCell_sz] at hs7
          have HC6 := Lib.hid hc6
          have HO6 := Lib.hid (HOS.out.same (hg6.block _ (by rw [setCell_sz]; omega) (fun e => by injection e with e; omega)))
          have HV6 := Lib.hid (owns_same HVS.out (fun g h1 h2 => hg6.block g h2 (fun e => by injection e with e; omega)))
          have HG6 := Lib.hid (HGS.out.trans (Gb2.one (W.heap.size + 1) hg6))
          have e1 : IntKind.i64.wrap (fo + x) = fo + x := IntWalk.i64_in _ (by omega)
          clear hg6 hc6 HOS HVS HCS HGS
          go_wp2_with fail
          refine (between_any B cb lA ln lc 5 13 (by omega) (by omega) (by omega) hln _ HC6.out).mono ?_
          rintro e w7 ⟨y, rfl, hy0, hy1, hg7, hc7⟩
          have HC7 := Lib.hid hc7
          have HO7 := Lib.hid (HO6.out.same (hg7.block _ (by omega) (fun e => by injection e with e; omega)))
          have HV7 := Lib.hid (owns_same HV6.out (fun g h1 h2 => hg7.block g h2 (fun e => by injection e with e; omega)))
          have HG7 := Lib.hid (HG6.out.trans (Gb2.one (W.heap.size + 1) hg7))
          have HGN := Lib.hid (HGG.out.put (x := x) (y := y) (by omega) (by omega))
          have e2 : IntKind.i64.wrap (pr - y) = pr - y := IntWalk.i64_in _ (by omega)
          clear hg7 hc7 HO6 HV6 HC6 HG6 hx0 hx1 hy0 hy1 hgg
          go_wp2_with fail
          refine ⟨?_, ?measure⟩
          case measure => simp [intOf]; omega
          exact ⟨j + 1, _, _, _, _, by omega, by go_num, rfl, rfl, HO7, HV7, HGN, HC7, HG7⟩
        · obtain rfl : j = mm := by omega
          have hge2 : ¬ (j : Int) < (j : Int) := by omega
          obtain ⟨gA, gc, rfl, hog, hgc⟩ := OwnGd.of_ownsT (P := G) HOW.out
          have HOG := Lib.hid hog
          clear hog HOW
          go_wp2_with fail
          refine (between_any B cb lA ln lc 1 3 (by omega) (by omega) (by omega) hln _ HCH.out).mono ?_
          rintro e w8 ⟨lo, rfl, hl0, hl1, hg8, hc8⟩
          have HC8 := Lib.hid hc8
          have HO8 := Lib.hid (HO.out.same (hg8.block _ (by omega) (fun e => by injection e with e; omega)))
          have HOG8 := Lib.hid (HOG.out.keep (w' := w8) (fun b h1 h2 => hg8.block b h2 (fun e => by injection e with e; omega)))
          have HG8 := Lib.hid (HG.out.trans (Gb2.one (W.heap.size + 1) hg8))
          have hs8 := HG8.out.size
          have HT8 := Lib.hid (HT1.out.same ((HGW.out.trans HG8.out).block W.heap.size (by omega) (by omega) (by omega)))
          have HOP8 := Lib.hid (HOP5.out.keep (w' := w8) (fun b h1 h2 => HG8.out.block b h2 (by omega) (by omega)))
          have HOR8 := Lib.hid (HOR5.out.keep (w' := w8) (fun b h1 h2 => HG8.out.block b h2 (by omega) (by omega)))
          have HGA := Lib.hid (HGW.out.trans HG8.out)
          clear hg8 hc8 HO HG HCH HOG HOP5 HOR5
          have HF : Hid (∀ w', (∀ i, i ≠ W.heap.size → i ≠ W.heap.size + 1 → w'.heap[i]? = w8.heap[i]?) → w'.heap.size = w8.heap.size → w'.os = w8.os → w'.tape = w8.tape → w'.output = w8.output →
              OwnPk w' W.heap.size pA k P ∧ OwnGd w' W.heap.size gA j G ∧ OwnInt w' W.heap.size rA k R ∧ W.grownBy w' (some cb) ∧ Chute w' B cb lA ln lc) := Lib.hid (fun w' hk hsz ho ht hu => by
            refine ⟨(HOP8.out.keep (fun b h1 h2 => hk b (by omega) (by omega))).mono (by omega), (HOG8.out.keep (fun b h1 h2 => hk b (by omega) (by omega))).mono (by omega), fun i hi => ?_, ⟨ho.trans (HGA.out.os.trans HB1.out.os), ht.trans (HGA.out.tape.trans HB1.out.tape), hu.trans (HGA.out.output.trans HB1.out.output), by have := HGA.out.size; have := HB1.out.size; omega, fun i hi hn => (hk i (by omega) (by omega)).trans ((HGA.out.block i (by have := HB1.out.size; omega) (fun e => hn (by rw [e])) (by omega)).trans (HB1.out.block i hi))⟩, HC8.out.keep (fun i hi => hk i (by omega) (by omega))⟩
            obtain ⟨b, h1, h2, h3⟩ := (HOR8.out.keep (w' := w') (fun b h1 h2 => hk b (by omega) (by omega))) i hi
            exact ⟨b, h1, by omega, h3⟩)
          obtain ⟨⟨q0, q1, q2⟩, fq0, fq1⟩ := HO8.out.1
          have fq2 := HO8.out.2
          obtain ⟨⟨t0, t1, t2⟩, ft0, ft1, ft2⟩ := HT8.out
          go_wp2_with fail
          have h := HF.out ((((w8.setCell ⟨W.heap.size + 1, 2, none⟩ (.int .i64 lo)).setCell ⟨W.heap.size, 0, none⟩ (.slice pA k pc)).setCell ⟨W.heap.size, 1, none⟩ (.slice gA j gc)).setCell ⟨W.heap.size, 2, none⟩ (.int .i64 lo)) (fun i h1 h2 => (set_heap _ (by exact h1)).trans ((set_heap _ (by exact h1)).trans ((set_heap _ (by exact h1)).trans (set_heap _ (by exact h2))))) (by simp only [setCell_sz]) rfl rfl rfl
          have hx1 : Hid (1 ≤ k ∧ (k : Int) ≤ np) := Lib.hid (by omega)
          have hne : W.heap.size + 1 ≠ W.heap.size := by omega
          refine bodyPost_ret (v := .tuple #[stV pA k pc gA j gc lo, .slice rA k rc]) ?_ rfl ⟨⟨k, P, j, G, lo⟩, R, pA, gA, rA, pc, gc, rc, rfl, hx1.out, hmm, by dsimp only; omega, hgood.out, ⟨fo, pr, HGG.out⟩, h.1, h.2.1, h.2.2.1, hpc, hgc, hrc, h.2.2.2.1, h.2.2.2.2⟩
          clear h
          exact (by simp (maxDischargeDepth := 9) [results, Try.results38, go_sem, t0, t1, t2, stV, hne])
end Go.Proofs.Ytegmomappbehcaa

set_option linter.unusedSimpArgs false
set_option linter.unusedVariables false
namespace Go.Proofs.Ytegmomappbehcaa
open Go.RowKit Go.Shelf

/-- what truth gives -/
def TruthPost (st : St) (X F : Nat → Int) (B cb : Nat) (lA : Option Addr) (ln lc : Nat) (W : World) (e : Ending) (W' : World) : Prop :=
  ∃ (A : Option Addr) (c : Nat) (Y : Nat → Int), e = .returned (.slice A st.n c) ∧ OwnInt W' W.heap.size A st.n Y ∧ st.n ≤ c ∧ (∀ k, k < st.n → max 0 (F k - ((st.P k).s - X k)) ≤ Y k ∧ Y k ≤ min (X k) (F k)) ∧ W.grownBy W' (some cb) ∧ Chute W' B cb lA ln lc

set_option maxRecDepth 100000 in
set_option maxHeartbeats 4000000 in
theorem truth_any (st : St) (B R cb : Nat) (lA : Option Addr) (ln lc : Nat) (hln : ln ≤ 9223372036854775807) (pA gA : Option Addr) (pc gc : Nat) (xA : Option Addr) (xc : Nat) (X : Nat → Int) (fA : Option Addr) (fc : Nat) (F : Nat → Int) (W : World) (hs : StRow W R st pA pc gA gc) (hne : ∀ a, pA = some a → a.block ≠ cb) (hn : st.n ≤ 4) (hsx : ∀ k, k < st.n → 0 ≤ (st.P k).s ∧ (st.P k).s ≤ 6)
    (hx : IntRow W W.heap.size xA st.n X) (hxne : ∀ a, xA = some a → a.block ≠ cb) (hf : IntRow W W.heap.size fA st.n F) (hfne : ∀ a, fA = some a → a.block ≠ cb) (hxx : ∀ k, k < st.n → 0 ≤ X k ∧ X k ≤ (st.P k).s) (hff : ∀ k, k < st.n → 0 ≤ F k ∧ F k ≤ (st.P k).s)
    (hB : B ≤ W.heap.size) (hcb : cb < W.heap.size) (hc : Chute W B cb lA ln lc) :
    Calls Try.prog 40 #[.pointer (some ⟨cb, 0, none⟩), stV pA st.n pc gA st.m gc st.lots, .slice xA st.n xc, .slice fA st.n fc] W (TruthPost st X F B cb lA ln lc W) := by
  have HS := Lib.hid hs
  have HC := Lib.hid hc
  have HNE := Lib.hid hne
  have HX := Lib.hid hsx
  have HRX := Lib.hid hx
  have HNX := Lib.hid hxne
  have HRF := Lib.hid hf
  have HNF := Lib.hid hfne
  have HXX := Lib.hid hxx
  have HFF := Lib.hid hff
  have hR := hs.lt
  clear hs hc hne hsx hx hxne hf hfne hxx hff
  obtain ⟨i0, hi, hz0, hz1, hz2⟩ := info_parts infoInt
  go_enter Try.func40, Try.ntmps40
  go_wp2_with fail
  have hba : Below W.heap.size W (W.alloc (.cells #[.slice pA st.n pc, .slice gA st.m gc, .int .i64 st.lots] 25)) := (by repeat (first | (with_reducible exact Below.refl _ _) | (with_reducible refine Below.drew ?_) | (with_reducible refine below_drewN ?_ _) | ((with_reducible refine below_alloc ?_ ?_ _); · (first | exact Nat.le_refl _ | omega | (simp; done) | (simp; omega) | (simp at *; omega))) | ((with_reducible refine below_set ?_ ?_ _); · (first | exact Nat.le_refl _ | omega | (simp; done) | (simp; omega) | (simp at *; omega))) | ((with_reducible refine below_via (by with_reducible assumption) ?_ ?_); · (first | exact Nat.le_refl _ | omega | (simp; done) | (simp; omega) | (simp at *; omega)))))
  have HC1 := Lib.hid (HC.out.later hba)
  have HG1 := Lib.hid (gb_of_below cb hba)
  clear hba
  go_loopw [9, 15] (fun v i wr => ∃ (k : Nat) (Y : Nat → Int), k ≤ st.n ∧ i = .int .i64 k ∧ Hid (wr.ownsRow W.heap.size 3 1 v k (numCells Y k)) ∧ Hid (∀ j, j < k → max 0 (F j - ((st.P j).s - X j)) ≤ Y j ∧ Y j ≤ min (X j) (F j)) ∧ Hid (Chute wr B cb lA ln lc) ∧ Hid (W.grownBy wr (some cb))) (fun _ i _ => st.n - (intOf i).toNat)
  case atStart => exact ⟨0, fun _ => 0, Nat.zero_le _, rfl, Lib.hid (World.ownsRow_nil _ _ _ _), Lib.hid (fun j hj => absurd hj (by omega)), HC1, HG1⟩
  case round =>
    clear HC1 HG1
    obtain ⟨k, Y, hk, rfl, hown, hys, hch, hg⟩ := hrel
    have hsw := hg.out.size
    by_cases hlt : k < st.n
    · obtain ⟨b, o, rfl, hbl, d0, d1, d2, d3⟩ := HS.out.p k hlt
      obtain ⟨xb, xo, rfl, hxl, dx⟩ := HRX.out k hlt
      obtain ⟨fb, fo, rfl, hfl, df⟩ := HRF.out k hlt
      have hnb : b ≠ cb := HNE.out _ rfl
      have hnx : xb ≠ cb := HNX.out _ rfl
      have hnf : fb ≠ cb := HNF.out _ rfl
      have hkb : wr.heap[b]? = W.heap[b]? := hg.out.block b (by omega) (fun e => by injection e with e; omega)
      have c0 := cell_same hkb d0
      have c1 := cell_same hkb d1
      have c2 := cell_same hkb d2
      have c3 := cell_same hkb d3
      have cx := cell_same (hg.out.block xb (by omega) (fun e => by injection e with e; omega)) dx
      have cf := cell_same (hg.out.block fb (by omega) (fun e => by injection e with e; omega)) df
      have hs6 := HX.out k hlt
      have hx6 := HXX.out k hlt
      have hf6 := HFF.out k hlt
      have hk0 : (0 : Int) ≤ (k : Int) := by omega
      have hkn : (k : Int) < (st.n : Int) := by omega
      have e1 : IntKind.i64.wrap ((st.P k).s - X k) = (st.P k).s - X k := IntWalk.i64_in _ (by omega)
      have e2 : IntKind.i64.wrap (F k - ((st.P k).s - X k)) = F k - ((st.P k).s - X k) := IntWalk.i64_in _ (by omega)
      have hv1 := hown.out.lt
      have hba : Below wr.heap.size wr (wr.alloc (.cells #[.int .i64 (st.P k).s, .int .i64 (st.P k).w, .int .i64 (st.P k).o, .int .i64 (st.P k).f] 75)) := (by repeat (first | (with_reducible exact Below.refl _ _) | (with_reducible refine Below.drew ?_) | (with_reducible refine below_drewN ?_ _) | ((with_reducible refine below_alloc ?_ ?_ _); · (first | exact Nat.le_refl _ | omega | (simp; done) | (simp; omega) | (simp at *; omega))) | ((with_reducible refine below_set ?_ ?_ _); · (first | exact Nat.le_refl _ | omega | (simp; done) | (simp; omega) | (simp at *; omega))) | ((with_reducible refine below_via (by with_reducible assumption) ?_ ?_); · (first | exact Nat.le_refl _ | omega | (simp; done) | (simp; omega) | (simp at *; omega)))))
      have HCA := Lib.hid (hch.out.later hba)
      clear d0 d1 d2 d3 dx df hkb hba
      go_upto_region 5 with fail
      go_region_held_law (fun w' => w'.cell? ⟨wr.heap.size, 0, none⟩ = some (.int .i64 (st.P k).s) ∧ w'.cell? ⟨xb, xo + k, none⟩ = some (.int .i64 (X k)) ∧ w'.cell? ⟨fb, fo + k, none⟩ = some (.int .i64 (F k))) (first | (go_split_ands; (refine ⟨?_, ?_, ?_⟩ <;> (refine (hg3.cell_far _ ?_ ?_).trans ?_; (· (first | omega | (simp only [World.size_alloc, World.size_drew]; omega) | (simp; done) | (simp; omega))); (· (intro e; injection e with e; (try dsimp only at e); omega)); (· (repeat (first | (with_reducible assumption) | (simp; done) | (with_reducible refine cell_drew_of ?_) | (with_reducible refine cell_drewN_of ?_) | (with_reducible refine cell_below_of (by with_reducible assumption) ?_) | ((with_reducible refine cell_new_of ?_ ?_) <;> (first | (with_reducible rfl) | (simp; done))) | ((with_reducible refine fro_new_of ?_) <;> (first | (with_reducible rfl) | (simp; done))) | (with_reducible refine cell_alloc_of _ ?_) | (with_reducible refine cell_set_of _ (by (first | exact Nat.le_refl _ | omega | (simp; done) | (simp; omega))) ?_) | (with_reducible refine fro_drew_of ?_) | (with_reducible refine fro_drewN_of ?_) | (with_reducible refine fro_below_of (by with_reducible assumption) (by (first | exact Nat.le_refl _ | omega | (simp; done) | (simp; omega))) ?_) | (with_reducible refine fro_alloc_of _ (by (first | exact Nat.le_refl _ | omega | (simp; done) | (simp; omega))) ?_) | (with_reducible refine fro_set_of _ ?_)))))); done) | (go_split_ands; (refine ⟨?_, ?_, ?_⟩ <;> (refine (hgr6.cell_far _ ?_ ?_).trans ?_; (· (first | omega | (simp only [World.size_alloc, World.size_drew]; omega) | (simp; done) | (simp; omega))); (· (intro e; have := hv1 _ e.symm; (try dsimp only at this); omega)); (· (repeat (first | (with_reducible assumption) | (simp; done) | (with_reducible refine cell_drew_of ?_) | (with_reducible refine cell_drewN_of ?_) | (with_reducible refine cell_below_of (by with_reducible assumption) ?_) | ((with_reducible refine cell_new_of ?_ ?_) <;> (first | (with_reducible rfl) | (simp; done))) | ((with_reducible refine fro_new_of ?_) <;> (first | (with_reducible rfl) | (simp; done))) | (with_reducible refine cell_alloc_of _ ?_) | (with_reducible refine cell_set_of _ (by (first | exact Nat.le_refl _ | omega | (simp; done) | (simp; omega))) ?_) | (with_reducible refine fro_drew_of ?_) | (with_reducible refine fro_drewN_of ?_) | (with_reducible refine fro_below_of (by with_reducible assumption) (by (first | exact Nat.le_refl _ | omega | (simp; done) | (simp; omega))) ?_) | (with_reducible refine fro_alloc_of _ (by (first | exact Nat.le_refl _ | omega | (simp; done) | (simp; omega))) ?_) | (with_reducible refine fro_set_of _ ?_)))))); done) | ((go_split_ands; (repeat' refine And.intro ?_ ?_) <;> (repeat (first | (with_reducible assumption) | (simp; done) | (with_reducible refine cell_drew_of ?_) | (with_reducible refine cell_drewN_of ?_) | (with_reducible refine cell_below_of (by with_reducible assumption) ?_) | ((with_reducible refine cell_new_of ?_ ?_) <;> (first | (with_reducible rfl) | (simp; done))) | ((with_reducible refine fro_new_of ?_) <;> (first | (with_reducible rfl) | (simp; done))) | (with_reducible refine cell_alloc_of _ ?_) | (with_reducible refine cell_set_of _ (by (first | exact Nat.le_refl _ | omega | (simp; done) | (simp; omega))) ?_) | (with_reducible refine fro_drew_of ?_) | (with_reducible refine fro_drewN_of ?_) | (with_reducible refine fro_below_of (by with_reducible assumption) (by (first | exact Nat.le_refl _ | omega | (simp; done) | (simp; omega))) ?_) | (with_reducible refine fro_alloc_of _ (by (first | exact Nat.le_refl _ | omega | (simp; done) | (simp; omega))) ?_) | (with_reducible refine fro_set_of _ ?_)))))) (first | (go_at_call 43; refine (between_any B cb lA ln lc _ _ (by omega) (by omega) (by omega) hln _ (HCA.out.later (by repeat (first | (with_reducible exact Below.refl _ _) | (with_reducible assumption) | (with_reducible refine Below.drew ?_) | ((with_reducible refine below_alloc ?_ ?_ _); (· (first | exact Nat.le_refl _ | omega | (dsimp only; omega) | (simp only [World.size_alloc, World.size_drew, World.heap_drewN]; omega) | (simp; omega)))) | ((with_reducible refine below_set ?_ ?_ _); (· (first | exact Nat.le_refl _ | omega | (dsimp only; omega) | (simp only [World.size_alloc, World.size_drew, World.heap_drewN]; omega) | (simp; omega)))) | ((with_reducible refine below_via (by with_reducible assumption) ?_ ?_); (· (first | exact Nat.le_refl _ | omega | (dsimp only; omega) | (simp only [World.size_alloc, World.size_drew, World.heap_drewN]; omega) | (simp; omega)))))))).mono ?_; rintro e w3 ⟨x, rfl, hx0, hx1, hg3, hc3⟩; have hz3 := hg3.size; (try simp only [World.size_drew, World.heap_drewN, World.size_alloc] at hz3)) | (refine step_append_lies _ (by rfl) (.tmp 20) (.tmp 45) 26 (by rfl) W.heap.size 3 i0 (.int .i64 0) 1 8 ints_under hi hz0 hz1 hz2 (by rfl) (by decide) u9 k (numCells Y k) (by rfl) ((own_keep (owns_later hown.out (show Below wr.heap.size wr _ from (by repeat (first | (with_reducible exact Below.refl _ _) | (with_reducible assumption) | (with_reducible refine Below.drew ?_) | ((with_reducible refine below_alloc ?_ ?_ _); (· (first | exact Nat.le_refl _ | omega | (dsimp only; omega) | (simp only [World.size_alloc, World.size_drew, World.heap_drewN]; omega) | (simp; omega)))) | ((with_reducible refine below_set ?_ ?_ _); (· (first | exact Nat.le_refl _ | omega | (dsimp only; omega) | (simp only [World.size_alloc, World.size_drew, World.heap_drewN]; omega) | (simp; omega)))) | ((with_reducible refine below_via (by with_reducible assumption) ?_ ?_); (· (first | exact Nat.le_refl _ | omega | (dsimp only; omega) | (simp only [World.size_alloc, World.size_drew, World.heap_drewN]; omega) | (simp; omega)))))))) hg3 hcb).alloc _) ⟨w3.heap.size, 0, none⟩ 1 1 [.int .i64 x] (by rfl) rfl (fun jj uu hjj => new_cells (w := w3) (t := 3) (cs := [.int .i64 x]) jj uu hjj) (by intro u hu; simp only [List.mem_cons, List.not_mem_nil, or_false] at hu; subst hu; rfl) (by omega) (by unfold maxLen; omega) (by omega) (by (first | omega | (simp only [World.size_alloc, World.size_drew]; omega) | (simp; done) | (simp; omega))) (w3.heap.size + 1) (by simp) ?_; intro g cap w6 hown6 hgr6 hat6 hlt6) | fail)
      all_goals
        have hxy : max 0 (F k - ((st.P k).s - X k)) ≤ x ∧ x ≤ min (X k) (F k) := by omega
        have HO6 : Hid (w6.ownsRow W.heap.size 3 1 (.slice (some ⟨g, 0, none⟩) (k + 1) cap) (k + 1) (numCells (fun j => if j = k then x else Y j) (k + 1))) := Lib.hid (by rw [← numCells_put]; exact hown6)
        have HY6 : Hid (∀ j, j < k + 1 → max 0 (F j - ((st.P j).s - X j)) ≤ (if j = k then x else Y j) ∧ (if j = k then x else Y j) ≤ min (X j) (F j)) := Lib.hid (fun j hj => by
          by_cases e : j = k
          · subst e; rw [if_pos rfl]; exact hxy
          · rw [if_neg e]; exact hys.out j (by omega))
        have hg3' : wr.grownBy w3 (some cb) := gb_trans (gb_of_below cb (show Below wr.heap.size wr _ from (by repeat (first | (with_reducible exact Below.refl _ _) | (with_reducible assumption) | (with_reducible refine Below.drew ?_) | ((with_reducible refine below_alloc ?_ ?_ _); (· (first | exact Nat.le_refl _ | omega | (dsimp only; omega) | (simp only [World.size_alloc, World.size_drew, World.heap_drewN]; omega) | (simp; omega)))) | ((with_reducible refine below_set ?_ ?_ _); (· (first | exact Nat.le_refl _ | omega | (dsimp only; omega) | (simp only [World.size_alloc, World.size_drew, World.heap_drewN]; omega) | (simp; omega)))) | ((with_reducible refine below_via (by with_reducible assumption) ?_ ?_); (· (first | exact Nat.le_refl _ | omega | (dsimp only; omega) | (simp only [World.size_alloc, World.size_drew, World.heap_drewN]; omega) | (simp; omega)))))))) hg3
        have hkeep : ∀ i, i < W.heap.size → w6.heap[i]? = w3.heap[i]? := fun i hi => (hgr6.block i (by simp; omega) (fun e => by have := (hv1 i e.symm).1; omega)).trans (Below.heap_alloc _ _ _ (by omega))
        have HC6 : Hid (Chute w6 B cb lA ln lc) := Lib.hid (hc3.keep (fun i hi => hkeep i (by omega)))
        have HG6 : Hid (W.grownBy w6 (some cb)) := Lib.hid ⟨hgr6.os.trans (hg3'.os.trans hg.out.os), hgr6.tape.trans (hg3'.tape.trans hg.out.tape), hgr6.output.trans (hg3'.output.trans hg.out.output), by have := hgr6.size; simp at this; omega, fun i hi hn => (hkeep i hi).trans ((hg3'.block i (by omega) hn).trans (hg.out.block i hi hn))⟩
        clear hown6 hgr6 hat6 hlt6 hkeep hg3 hg3' hc3 c0 c1 c2 c3 cx cf hx0 hx1
        go_wp2_with fail
        go_roundw
        case rel => exact ⟨k + 1, _, by omega, by go_num, HO6, HY6, HC6, HG6⟩
        case measure => simp [intOf]; omega
    · obtain rfl : k = st.n := by omega
      have hge : ¬ (st.n : Int) < (st.n : Int) := by omega
      obtain ⟨A, c, rfl, hr, hcl⟩ := ownInt_of hown.out
      have HR := Lib.hid hr
      clear hr
      go_wp2_with fail
      go_ret
      exact ⟨A, c, Y, rfl, HR.out, hcl, hys.out, hg.out, hch.out⟩
end Go.Proofs.Ytegmomappbehcaa

set_option linter.unusedSimpArgs false
set_option linter.unusedVariables false
namespace Go.Proofs.Ytegmomappbehcaa
open Go.ChangeShapes Go.WideShapes Go.ChangeAt Go.RowKit Go.Deep Go.Joins

section
variable {H : Type} {enc : TypeId × Value → H} {w : World} {base : Nat} {spare : Nat → Bool} {held : Bool}

set_option maxRecDepth 100000 in
theorem open_bytes {fuel : Nat} {v : Value} {x : DataW H × List MemPlace} (h : DataW.trod enc Try.prog w base spare held fuel 63 [v] = some x) : ∃ A n c, v = .slice A n c ∧ ByIn w w.heap.size A n ∧ n ≤ maxLen := by
  rcases open_slice (e := 5) Try.underlying63 h with ⟨h0, _⟩ | ⟨a, len, cap, m, n, D, Pl, hcs, hb, hl, hm, hmm, hx, hi⟩
  · injection h0 with h0
    exact ⟨none, 0, 0, h0, fun k hk => absurd hk (by omega), Nat.zero_le _⟩
  · injection hcs with hcs
    have each : ∀ i, i < len → ∃ z, w.cell? (a.add i) = some (.int .u8 z) ∧ 0 ≤ z ∧ z ≤ 255 := fun k hk => by
      have him : k < m := by rw [hmm]; split <;> omega
      obtain ⟨cs', hc, ht'⟩ := hi k him
      rw [show Try.prog.cellsOf 5 = 1 by kernel_rfl, Nat.mul_one] at hc
      obtain ⟨_, hcl, hat⟩ := World.cells?_some hc
      obtain ⟨z, hz, hw⟩ := DataW.trod_int Try.underlying5 ht'
      have hcell := hat 0 (by omega)
      rw [hz] at hcell
      exact ⟨z, by simpa [Addr.add] using hcell, bounds_u8 hw.2⟩
    refine ⟨some a, len, cap, hcs, fun k hk => ?_, by omega⟩
    obtain ⟨z, hc0, hz⟩ := each k hk
    have hsp : a.spot = none := by
      obtain ⟨z0, h10, _⟩ := each 0 (by omega)
      simpa [Addr.add] using World.cell?_spot h10
    obtain ⟨b, o, sp⟩ := a
    simp only at hsp
    subst hsp
    have e : ∀ j, (⟨b, o, none⟩ : Addr).add j = ⟨b, o + j, none⟩ := fun j => Addr.add_lit _ _ _
    exact ⟨b, o, z, rfl, by have := World.block_lt_of_cell? w _ hc0; rw [e] at this; exact this, (congrArg w.cell? (e k)).symm.trans hc0, hz⟩
end
end Go.Proofs.Ytegmomappbehcaa

set_option linter.unusedSimpArgs false
set_option linter.unusedVariables false
namespace Go.Proofs.Ytegmomappbehcaa

theorem made_ok {st : St} {R : Nat → Int} {most f p : Int} (hn : 1 ≤ st.n ∧ st.n ≤ 4) (hm : 1 ≤ st.m ∧ st.m ≤ 3) (hl : 1 ≤ st.lots ∧ st.lots ≤ 3) (hmost : most ≤ 6) (hg : ∀ k, k < st.n → goodPk most (st.P k) (R k)) (hd : goodGd st.m st.G f p) : st.ok := by
  refine ⟨hn.1, hn.2, by omega, fun k hk => ?_, fun k hk => ?_, by omega, hl.2, fun k hk => hd.2.1 k hk, fun k hk => ?_⟩
  · have h := hg k hk
    unfold goodPk at h
    unfold Pk.rng
    omega
  · have h := hd.1 k hk
    unfold Gd.rng
    omega
  · have h := hg k hk
    unfold goodPk at h
    unfold Pk.hi
    omega
/-- what is really foul can be -/
theorem made_real {st : St} {R : Nat → Int} {most : Int} (hg : ∀ k, k < st.n → goodPk most (st.P k) (R k)) : ∀ k, k < st.n → (st.P k).f ≤ R k ∧ R k ≤ (st.P k).hi := fun k hk => by
  have h := hg k hk
  unfold goodPk at h
  unfold Pk.hi
  omega
theorem lot_ask {st : St} {X : Nat → Int} (hst : st.ok) (h : ∀ k, k < st.n → 0 ≤ X k ∧ X k ≤ (st.P k).s) : st.askErr st.n X = 0 := by
  unfold St.askErr
  rw [if_neg (by simp [St.check_ok.2 hst])]
  unfold St.lotErr
  rw [if_neg (by simp), if_neg]
  rw [allN_iff.2 (fun k hk => by
    have h1 := h k hk
    simp [inB]; omega)]
  decide
theorem bag_sum {st : St} {X : Nat → Int} (h4 : st.n ≤ 4) : sumN X st.n = (bagOf X st.n).size := (bagOf_size h4).symm
theorem hi_sum {st : St} {X : Nat → Int} (h4 : st.n ≤ 4) : sumN (fun k => (st.P k).hiOf (X k)) st.n = st.hi (bagOf X st.n) :=
  sumN_congr (fun k hk => by rw [bagOf_at hk (by omega)])
end Go.Proofs.Ytegmomappbehcaa

set_option linter.unusedSimpArgs false
set_option linter.unusedVariables false
namespace Go.Proofs.Ytegmomappbehcaa

theorem first_spec {st : St} {x : Bag} : ∀ r i, i ≤ st.firstFrom x r i ∧ st.firstFrom x r i ≤ i + r ∧ (st.firstFrom x r i < i + r → st.has x (st.G (st.firstFrom x r i)) = true) ∧ ∀ j, i ≤ j → j < st.firstFrom x r i → st.has x (st.G j) = false
  | 0, i => ⟨Nat.le_refl _, Nat.le_refl _, fun h => absurd h (Nat.lt_irrefl _), fun j h1 h2 => absurd h2 (by show ¬ j < i; omega)⟩
  | r + 1, i => by
    unfold St.firstFrom
    by_cases h : st.has x (st.G i) = true
    · rw [if_pos h]
      exact ⟨Nat.le_refl _, by omega, fun _ => h, fun j h1 h2 => by omega⟩
    · rw [if_neg h]
      obtain ⟨h1, h2, h3, h4⟩ := first_spec (st := st) (x := x) r (i + 1)
      refine ⟨by omega, by omega, fun hh => h3 (by omega), fun j g1 g2 => ?_⟩
      by_cases e : j = i
      · subst e; simpa using h
      · exact h4 j (by omega) g2
/-- a greater share of foul sacks holds what a smaller one does -/
theorem has_mono {st : St} {x : Bag} {g g' : Gd} (h : g.foul ≤ g'.foul) (hx : st.has x g = true) : st.has x g' = true := by
  unfold St.has at hx ⊢
  simp only [Bool.and_eq_true, decide_eq_true_iff] at hx ⊢
  refine ⟨hx.1, ?_⟩
  have := Int.mul_le_mul_of_nonneg_right h (Int.le_of_lt hx.1)
  omega
theorem most_key {st : St} {g : Gd} : ∀ (l : List Bag) (o : Bag), (l.foldl (st.mostStep g) o = o ∨ st.has (l.foldl (st.mostStep g) o) g = true) ∧ o.size ≤ (l.foldl (st.mostStep g) o).size ∧ ∀ b, b ∈ l → st.has b g = true → b.size ≤ (l.foldl (st.mostStep g) o).size
  | [], o => ⟨.inl rfl, Int.le_refl _, fun b hb => by cases hb⟩
  | c :: l, o => by
    simp only [List.foldl_cons]
    obtain ⟨h1, h2, h3⟩ := most_key (st := st) (g := g) l (st.mostStep g o c)
    have hs : (st.mostStep g o c = o ∨ st.has (st.mostStep g o c) g = true) ∧ o.size ≤ (st.mostStep g o c).size ∧ (st.has c g = true → c.size ≤ (st.mostStep g o c).size) := by
      unfold St.mostStep
      split
      · rename_i h
        simp only [Bool.and_eq_true, decide_eq_true_iff] at h
        exact ⟨.inr h.2, by omega, fun _ => Int.le_refl _⟩
      · rename_i h
        simp only [Bool.and_eq_true, decide_eq_true_iff, not_and] at h
        refine ⟨.inl rfl, Int.le_refl _, fun hc => ?_⟩
        by_cases e : o.size < c.size
        · exact absurd hc (h e)
        · omega
    refine ⟨?_, by omega, fun b hb hh => ?_⟩
    · rcases h1 with h1 | h1
      · rw [h1]
        exact hs.1
      · exact .inr h1
    · rcases List.mem_cons.1 hb with rfl | hb
      · have := hs.2.2 hh
        omega
      · exact h3 b hb hh
/-- the most of a grade: none that has it is greater -/
theorem most_is {st : St} {g : Gd} : (st.most g = bagZ ∨ st.has (st.most g) g = true) ∧ ∀ b, b.in_ st.all → st.has b g = true → b.size ≤ (st.most g).size :=
  ⟨(most_key (st := st) (g := g) (bagsOf st.all) bagZ).1, fun b hb => (most_key (st := st) (g := g) (bagsOf st.all) bagZ).2.2 b (mem_bagsOf.2 hb)⟩
theorem most_in {st : St} (hst : st.ok) {g : Gd} : (st.most g).in_ st.all := St.mostOf_in hst (fun b hb => mem_bagsOf.1 hb)
/-- a wider grade has no smaller most -/
theorem most_mono {st : St} (hst : st.ok) {g g' : Gd} (h : g.foul ≤ g'.foul) : (st.most g).size ≤ (st.most g').size := by
  rcases (most_is (st := st) (g := g)).1 with e | e
  · rw [e]
    have := (most_key (st := st) (g := g') (bagsOf st.all) bagZ).2.1
    exact this
  · exact (most_is (st := st) (g := g')).2 _ (most_in hst) (has_mono h e)
/-- sacks to spare -/
theorem spare_is {st : St} {x : Bag} {p : Nat} {g : Gd} : ∀ k, (-1 ≤ st.spareN x p g k ∧ st.spareN x p g k ≤ k) ∧ (0 ≤ st.spareN x p g k → st.has (x.set p (x.at p + st.spareN x p g k)) g = true) ∧ ∀ e : Nat, e ≤ k → st.spareN x p g k < (e : Int) → st.has (x.set p (x.at p + (e : Int))) g = false
  | 0 => by
    unfold St.spareN
    by_cases h : st.has (x.set p (x.at p)) g = true
    · rw [if_pos h]
      refine ⟨by omega, fun _ => by rw [Int.add_zero]; exact h, fun e h1 h2 => by omega⟩
    · rw [if_neg h]
      refine ⟨by omega, fun h => by omega, fun e h1 h2 => ?_⟩
      obtain rfl : e = 0 := by omega
      simpa using h
  | k + 1 => by
    unfold St.spareN
    by_cases h : st.has (x.set p (x.at p + ((k + 1 : Nat) : Int))) g = true
    · rw [if_pos h]
      exact ⟨by omega, fun _ => h, fun e h1 h2 => by omega⟩
    · rw [if_neg h]
      obtain ⟨h1, h2, h3⟩ := spare_is (st := st) (x := x) (p := p) (g := g) k
      refine ⟨by omega, h2, fun e g1 g2 => ?_⟩
      by_cases he : e = k + 1
      · subst he; simpa using h
      · exact h3 e (by omega) g2
theorem foul_le {st : St} (hst : st.ok) {i : Nat} : ∀ d, i + d < st.m → (st.G i).foul ≤ (st.G (i + d)).foul
  | 0, _ => Int.le_refl _
  | d + 1, h => by
    have h1 := foul_le hst (i := i) d (by omega)
    have h2 := (hst.up (i + d) (by omega)).1
    show _ ≤ (st.G (i + d + 1)).foul
    omega
/-- it surely has a grade: just where the first that it has is no worse -/
theorem sure_fits {st : St} (hst : st.ok) {x : Bag} {k : Nat} (hk : k < st.m) : (0 ≤ st.sureI x ∧ st.sureI x ≤ (k : Int)) ↔ st.has x (st.G k) = true := by
  obtain ⟨h1, h2, h3, h4⟩ := first_spec (st := st) (x := x) st.m 0
  have e : st.firstFrom x st.m 0 = st.first x := rfl
  rw [e] at h2 h3 h4
  unfold St.sureI
  constructor
  · intro h
    split at h
    · rename_i hf
      obtain ⟨d, hd⟩ : ∃ d, k = st.first x + d := ⟨k - st.first x, by omega⟩
      rw [hd]
      exact has_mono (foul_le hst d (by omega)) (h3 (by omega))
    · omega
  · intro h
    have hf : ¬ k < st.first x := fun hlt => by
      have := h4 k (Nat.zero_le _) hlt
      rw [h] at this
      cases this
    rw [if_pos (by omega)]
    omega
theorem sure_bd {st : St} {x : Bag} : -1 ≤ st.sureI x ∧ st.sureI x < max 1 (st.m : Int) := by
  unfold St.sureI
  split <;> omega
/-- the bag of a lot with one number raised -/
theorem bag_raise {X : Nat → Int} {n k : Nat} (hk : k < n) (h4 : n ≤ 4) (e : Int) : bagOf (fun i => if i = k then X i + e else X i) n = (bagOf X n).set k ((bagOf X n).at k + e) := by
  have h1 : n = 1 ∨ n = 2 ∨ n = 3 ∨ n = 4 := by omega
  have h2 : k = 0 ∨ k = 1 ∨ k = 2 ∨ k = 3 := by omega
  rcases h1 with rfl | rfl | rfl | rfl <;> rcases h2 with rfl | rfl | rfl | rfl <;> first | (exfalso; omega) | (simp [bagOf, bagK, Bag.set, Bag.at]; done)
end Go.Proofs.Ytegmomappbehcaa

set_option linter.unusedSimpArgs false
set_option linter.unusedVariables false
namespace Go.Proofs.Ytegmomappbehcaa
open Go.RowKit Go.Shelf

/-- a made store in its box, and a later chute -/
structure MAt (W w : World) (B cb : Nat) (st : St) (bx : Nat) (pA gA : Option Addr) (pc gc : Nat) (tA : Option Addr) (tn tc : Nat) : Prop where
  s : StAt w bx pA st.n pc gA st.m gc st.lots
  r : StRow w B st pA pc gA gc
  c : Chute w W.heap.size cb tA tn tc
  b : Below W.heap.size W w
  hb : bx < B
  hB : B ≤ cb
  hW : W.heap.size ≤ B
  hc : cb < w.heap.size
theorem MAt.later {W w w' : World} {B cb : Nat} {st : St} {b : Nat} {pA gA : Option Addr} {pc gc : Nat} {tA : Option Addr} {tn tc : Nat} (h : MAt W w B cb st b pA gA pc gc tA tn tc) (hb : Below w.heap.size w w') : MAt W w' B cb st b pA gA pc gc tA tn tc :=
  ⟨h.s.later hb, h.r.later (hb.mono h.r.lt), h.c.later hb, h.b.trans (hb.mono h.b.size), h.hb, h.hB, h.hW, Nat.lt_of_lt_of_le h.hc hb.size⟩
theorem MAt.keep {W w w' : World} {B cb : Nat} {st : St} {b : Nat} {pA gA : Option Addr} {pc gc : Nat} {tA : Option Addr} {tn tc : Nat} (h : MAt W w B cb st b pA gA pc gc tA tn tc) (hg : w.grownBy w' (some cb)) (hc : Chute w' W.heap.size cb tA tn tc) : MAt W w' B cb st b pA gA pc gc tA tn tc :=
  ⟨h.s.same (hg.block b h.s.lt (fun e => by injection e with e; have := h.hb; have := h.hB; omega)), h.r.later (gb_below hg h.r.lt h.hB), hc, h.b.trans (gb_below hg h.b.size (Nat.le_trans h.hW h.hB)), h.hb, h.hB, h.hW, Nat.lt_of_lt_of_le h.hc hg.size⟩

theorem OwnInt.put {w : World} {lo n b : Nat} {X : Nat → Int} (h : OwnInt w lo (some ⟨b, 0, none⟩) n X) {i : Nat} (hi : i < n) (v : Int) : OwnInt (w.setCell ⟨b, i, none⟩ (.int .i64 v)) lo (some ⟨b, 0, none⟩) n (fun t => if t = i then v else X t) := fun k hk => by
  obtain ⟨_, hA, hl, c0, hf⟩ := h k hk
  injection hA with hA
  injection hA with hA
  subst hA
  refine ⟨b, rfl, hl, ?_, fun j => fro_set_of _ (hf j)⟩
  dsimp only
  by_cases hki : k = i
  · subst hki
    rw [if_pos rfl]
    exact World.cell?_setCell_same' _ _ _ (by rw [c0]; rfl)
  · rw [if_neg hki, World.cell?_setCell_other _ _ _ _ (by intro e; injection e with _ e _; omega)]
    exact c0
theorem OwnInt.congr {w : World} {lo n : Nat} {A : Option Addr} {X Y : Nat → Int} (h : OwnInt w lo A n X) (e : ∀ k, k < n → X k = Y k) : OwnInt w lo A n Y := fun k hk => by
  obtain ⟨b, hA, hl, c0, hf⟩ := h k hk
  rw [e k hk] at c0
  exact ⟨b, hA, hl, c0, hf⟩
theorem OwnInt.raise {w : World} {lo n b : Nat} {X : Nat → Int} (h : OwnInt w lo (some ⟨b, 0, none⟩) n X) {i : Nat} (hi : i < n) (e : Int) : OwnInt (w.setCell ⟨b, i, none⟩ (.int .i64 (X i + e))) lo (some ⟨b, 0, none⟩) n (fun t => if t = i then X t + e else X t) :=
  (h.put hi (X i + e)).congr (fun k _ => by by_cases hk : k = i <;> simp [hk])
/-- a made store, a later chute, and a lot -/
structure LAt (W w : World) (B cb lo : Nat) (st : St) (bx : Nat) (pA gA : Option Addr) (pc gc : Nat) (tA : Option Addr) (tn tc : Nat) (lA : Option Addr) (Y : Nat → Int) : Prop where
  m : MAt W w B cb st bx pA gA pc gc tA tn tc
  l : OwnInt w lo lA st.n Y
  h : cb < lo
theorem LAt.later {W w w' : World} {B cb lo : Nat} {st : St} {b : Nat} {pA gA : Option Addr} {pc gc : Nat} {tA : Option Addr} {tn tc : Nat} {lA : Option Addr} {Y : Nat → Int} (h : LAt W w B cb lo st b pA gA pc gc tA tn tc lA Y) (hb : Below w.heap.size w w') : LAt W w' B cb lo st b pA gA pc gc tA tn tc lA Y :=
  ⟨h.m.later hb, h.l.later hb, h.h⟩
theorem LAt.keep {W w w' : World} {B cb lo : Nat} {st : St} {b : Nat} {pA gA : Option Addr} {pc gc : Nat} {tA : Option Addr} {tn tc : Nat} {lA : Option Addr} {Y : Nat → Int} (h : LAt W w B cb lo st b pA gA pc gc tA tn tc lA Y) (hg : w.grownBy w' (some cb)) (hc : Chute w' W.heap.size cb tA tn tc) : LAt W w' B cb lo st b pA gA pc gc tA tn tc lA Y :=
  ⟨h.m.keep hg hc, h.l.keep (fun i h1 h2 => hg.block i h2 (fun e => by injection e with e; have := h.h; omega)), h.h⟩
theorem Chute.over {w w' : World} {B cb lo : Nat} {lA : Option Addr} {ln lc : Nat} (h : Chute w B cb lA ln lc) (h1 : B ≤ lo) (h2 : cb < lo) (hb : Below lo w w') : Chute w' B cb lA ln lc :=
  h.keep (fun i hi => hb.block i (by omega))
theorem StAt.over {w w' : World} {b lo : Nat} {pA : Option Addr} {n pc : Nat} {gA : Option Addr} {m gc : Nat} {l : Int} (h : StAt w b pA n pc gA m gc l) (hlo : b < lo) (hb : Below lo w w') : StAt w' b pA n pc gA m gc l := h.same (hb.block b hlo)
/-- what is written above all of it leaves it -/
theorem MAt.over {W w w' : World} {B cb lo : Nat} {st : St} {b : Nat} {pA gA : Option Addr} {pc gc : Nat} {tA : Option Addr} {tn tc : Nat} (h : MAt W w B cb st b pA gA pc gc tA tn tc) (hlo : cb < lo) (hb : Below lo w w') (hs : w.heap.size ≤ w'.heap.size) : MAt W w' B cb st b pA gA pc gc tA tn tc := by
  have h1 := h.hb
  have h2 := h.hB
  have h3 := h.hW
  exact ⟨h.s.over (by omega) hb, h.r.later (hb.mono (by omega)), h.c.over (by omega) hlo hb, h.b.trans (hb.mono (by omega)), h.hb, h.hB, h.hW, Nat.lt_of_lt_of_le h.hc hs⟩
end Go.Proofs.Ytegmomappbehcaa

set_option linter.unusedSimpArgs false
set_option linter.unusedVariables false
namespace Go.Proofs.Ytegmomappbehcaa

/-- the block of a number -/
def blkOf (n : Nat) : Code → Option Code
  | .block m b => match Nat.beq m n with
    | true => some (.block m b)
    | false => blkOf n b
  | .seq x y => match blkOf n x with
    | some c => some c
    | none => blkOf n y
  | .loop b => blkOf n b
  | .cond _ x y => match blkOf n x with
    | some c => some c
    | none => blkOf n y
  | .scope b => blkOf n b
  | _ => none
/-- a block of a function's body -/
def blkIn (f : Func) (n : Nat) : Code := (blkOf n (f.body.getD .skip)).getD .skip
end Go.Proofs.Ytegmomappbehcaa

set_option linter.unusedSimpArgs false
set_option linter.unusedVariables false
namespace Go.Proofs.Ytegmomappbehcaa
open Go.RowKit Go.Shelf

set_option maxRecDepth 100000 in
set_option maxHeartbeats 8000000 in
theorem mixed_loop3 (W : World) (B qb lo : Nat) (st : St) (bx : Nat) (pA gA : Option Addr) (pc gc : Nat) (tA : Option Addr) (tn tc lb lc : Nat) (Y : Nat → Int) (k p : Nat) (sp nn fe sx yx : Int) (HST : Hid st.ok) (hn4 : st.n ≤ 4) (hlt : k < st.m) (hm3 : st.m ≤ 3) (hpn : p < st.n) (HY : Hid (∀ i, i < st.n → 0 ≤ Y i ∧ Y i ≤ (st.P i).s)) (HSX : Hid ((st.P p).s = sx)) (HYX : Hid (Y p = yx)) (hs6 : 0 ≤ sx ∧ sx ≤ 6) (hyp : 0 ≤ yx ∧ yx ≤ sx)
    (HSP : Hid ((-1 ≤ sp ∧ sp ≤ ((sx - yx).toNat : Nat)) ∧ (0 ≤ sp → st.has ((bagOf Y st.n).set p ((bagOf Y st.n).at p + sp)) (st.G k) = true) ∧ ∀ e : Nat, e ≤ (sx - yx).toNat → sp < (e : Int) → st.has ((bagOf Y st.n).set p ((bagOf Y st.n).at p + (e : Int))) (st.G k) = false))
    (HFN : Hid ((fe = 0 ∧ nn = sp ∧ 0 ≤ sp) ∨ (fe = 1 ∧ nn = 0 ∧ sp < 0))) {u0 u1 u2 u3 u4 u6 u7 u8 u10 u11 u12 u13 u14 u16 u17 u21 u22 u23 u24 u25 u26 u27 u28 u29 u30 u31 u32 u33 u34 u35 u36 u37 u38 u39 u40 u41 u42 u43 u44 u45 u46 u47 u48 u49 u50 u51 u52 u53 u54 u55 u56 u57 u58 u59 u60 u61 u62 u63 u64 u65 u66 u67 u68 u69 u70 u71 u72 u73 u74 u75 u76 u77 u78 u79 u80 u81 u82 u83 u84 u85 u86 u87 u88 u89 u90 u91 u92 u93 u94 u95 u96 u97 u98 u99 u100 u101 u102 u103 u104 u105 u106 u107 u108 u109 u110 u111 u112 u113 u114 u115 u116 u117 u118 u119 u120 u121 u122 u123 u124 u125 u126 u127 u128 u129 u130 u131 u132 u133 u134 u135 u136 u137 u138 u139 u140 u141 u142 u143 u144 u145 u146 u147 u148 u149 u150 u151 u152 u153 u156 u157 u158 u159 u160 u161 u162 u163 u164 u165 u166 u167 u168 u169 u170 u171 u172 u173 u174 u175 u176 u177 u178 u179 u180 u181 u182 u183 u184 u185 u186 u187 u188 u189 u190 u191 u192 u193 u194 u195 u196 u197 u198 u199 u200 u201 u202 u203 u204 u205 u206 u207 u208 u209 u210 u211 u212 u213 : Value} (w : World) (HR : Hid (LAt W w B qb lo st bx pA gA pc gc tA tn tc (some ⟨lb, 0, none⟩) Y))
    (Q : Exit → Act → World → Prop) (hK : ∀ {x4 x21 x22 x23 x24 x25 x155 x156 x157 x158 x159 x160 x161 x162 x163 x164 x165 x166 x167 x168 x169 x170 x171 x172 x173 x174 x175 x176 x177 x178 x179 x180 x181 x182 x183 x184 x185 x186 x187 x188 x189 x190 x191 x192 x193 x194 x195 x196 x197 x198 x199 x200 x201 x202 x203 x204 x205 x206 x207 x208 x209 x210 : Value} (w' : World), Hid (LAt W w' B qb lo st bx pA gA pc gc tA tn tc (some ⟨lb, 0, none⟩) Y) → Q .normal ⟨(List.toArray (u0 :: u1 :: u2 :: u3 :: x4 :: (.pointer (some ⟨bx, 0, none⟩)) :: u6 :: u7 :: u8 :: (.int .i64 (k : Int)) :: u10 :: u11 :: u12 :: u13 :: u14 :: (.slice (some ⟨lb, 0, none⟩) st.n lc) :: u16 :: u17 :: (.int .i64 (p : Int)) :: (.int .i64 nn) :: (.int .i64 fe) :: x21 :: x22 :: x23 :: x24 :: x25 :: u26 :: u27 :: u28 :: u29 :: u30 :: u31 :: u32 :: u33 :: u34 :: u35 :: u36 :: u37 :: u38 :: u39 :: u40 :: u41 :: u42 :: u43 :: u44 :: u45 :: u46 :: u47 :: u48 :: u49 :: u50 :: u51 :: u52 :: u53 :: u54 :: u55 :: u56 :: u57 :: u58 :: u59 :: u60 :: u61 :: u62 :: u63 :: u64 :: u65 :: u66 :: u67 :: u68 :: u69 :: u70 :: u71 :: u72 :: u73 :: u74 :: u75 :: u76 :: u77 :: u78 :: u79 :: u80 :: u81 :: u82 :: u83 :: u84 :: u85 :: u86 :: u87 :: u88 :: u89 :: u90 :: u91 :: u92 :: u93 :: u94 :: u95 :: u96 :: u97 :: u98 :: u99 :: u100 :: u101 :: u102 :: u103 :: u104 :: u105 :: u106 :: u107 :: u108 :: u109 :: u110 :: u111 :: u112 :: u113 :: u114 :: u115 :: u116 :: u117 :: u118 :: u119 :: u120 :: u121 :: u122 :: u123 :: u124 :: u125 :: u126 :: u127 :: u128 :: u129 :: u130 :: u131 :: u132 :: u133 :: u134 :: u135 :: u136 :: u137 :: u138 :: u139 :: u140 :: u141 :: u142 :: u143 :: u144 :: u145 :: u146 :: u147 :: u148 :: u149 :: u150 :: u151 :: u152 :: u153 :: (.int .i64 (sx - yx + 1)) :: x155 :: x156 :: x157 :: x158 :: x159 :: x160 :: x161 :: x162 :: x163 :: x164 :: x165 :: x166 :: x167 :: x168 :: x169 :: x170 :: x171 :: x172 :: x173 :: x174 :: x175 :: x176 :: x177 :: x178 :: x179 :: x180 :: x181 :: x182 :: x183 :: x184 :: x185 :: x186 :: x187 :: x188 :: x189 :: x190 :: x191 :: x192 :: x193 :: x194 :: x195 :: x196 :: x197 :: x198 :: x199 :: x200 :: x201 :: x202 :: x203 :: x204 :: x205 :: x206 :: x207 :: x208 :: x209 :: x210 :: u211 :: u212 :: u213 :: [])), []⟩ w') :
    Code.wp Try.prog (blkIn Try.f7 4) Q ⟨(List.toArray (u0 :: u1 :: u2 :: u3 :: u4 :: (.pointer (some ⟨bx, 0, none⟩)) :: u6 :: u7 :: u8 :: (.int .i64 (k : Int)) :: u10 :: u11 :: u12 :: u13 :: u14 :: (.slice (some ⟨lb, 0, none⟩) st.n lc) :: u16 :: u17 :: (.int .i64 (p : Int)) :: (.int .i64 nn) :: (.int .i64 fe) :: u21 :: u22 :: u23 :: u24 :: u25 :: u26 :: u27 :: u28 :: u29 :: u30 :: u31 :: u32 :: u33 :: u34 :: u35 :: u36 :: u37 :: u38 :: u39 :: u40 :: u41 :: u42 :: u43 :: u44 :: u45 :: u46 :: u47 :: u48 :: u49 :: u50 :: u51 :: u52 :: u53 :: u54 :: u55 :: u56 :: u57 :: u58 :: u59 :: u60 :: u61 :: u62 :: u63 :: u64 :: u65 :: u66 :: u67 :: u68 :: u69 :: u70 :: u71 :: u72 :: u73 :: u74 :: u75 :: u76 :: u77 :: u78 :: u79 :: u80 :: u81 :: u82 :: u83 :: u84 :: u85 :: u86 :: u87 :: u88 :: u89 :: u90 :: u91 :: u92 :: u93 :: u94 :: u95 :: u96 :: u97 :: u98 :: u99 :: u100 :: u101 :: u102 :: u103 :: u104 :: u105 :: u106 :: u107 :: u108 :: u109 :: u110 :: u111 :: u112 :: u113 :: u114 :: u115 :: u116 :: u117 :: u118 :: u119 :: u120 :: u121 :: u122 :: u123 :: u124 :: u125 :: u126 :: u127 :: u128 :: u129 :: u130 :: u131 :: u132 :: u133 :: u134 :: u135 :: u136 :: u137 :: u138 :: u139 :: u140 :: u141 :: u142 :: u143 :: u144 :: u145 :: u146 :: u147 :: u148 :: u149 :: u150 :: u151 :: u152 :: u153 :: (.int .i64 (sx - yx + 1)) :: (.int .i64 0) :: u156 :: u157 :: u158 :: u159 :: u160 :: u161 :: u162 :: u163 :: u164 :: u165 :: u166 :: u167 :: u168 :: u169 :: u170 :: u171 :: u172 :: u173 :: u174 :: u175 :: u176 :: u177 :: u178 :: u179 :: u180 :: u181 :: u182 :: u183 :: u184 :: u185 :: u186 :: u187 :: u188 :: u189 :: u190 :: u191 :: u192 :: u193 :: u194 :: u195 :: u196 :: u197 :: u198 :: u199 :: u200 :: u201 :: u202 :: u203 :: u204 :: u205 :: u206 :: u207 :: u208 :: u209 :: u210 :: u211 :: u212 :: u213 :: [])), []⟩ w := by
  (conv => arg 2; whnf)
  go_wp2_with fail
  go_loopw [155] (fun v wr => ∃ m : Nat, (m : Int) ≤ sx - yx + 1 ∧ v = .int .i64 m ∧ Hid (LAt W wr B qb lo st bx pA gA pc gc tA tn tc (some ⟨lb, 0, none⟩) Y)) (fun v _ => (sx - yx + 1 - intOf v).toNat)
  case atStart => exact ⟨0, by omega, rfl, HR⟩
  case round =>
    clear HR
    obtain ⟨m, hm', rfl, HRm⟩ := hrel
    obtain ⟨wz, rfl⟩ : ∃ wz, wz = wr := ⟨_, rfl⟩
    by_cases hmt : (m : Int) < sx - yx + 1
    · have hqz := HRm.out.m.hc
      have hp0 : (0 : Int) ≤ (p : Int) := by omega
      have hpi : (p : Int) < (st.n : Int) := by omega
      have e1 : IntKind.i64.wrap (yx + (m : Int)) = yx + (m : Int) := IntWalk.i64_in _ (by omega)
      go_wp2_with fail
      refine (copy_int (some ⟨lb, 0, none⟩) st.n lc Y _ HRm.out.l.row (by omega)).mono ?_
      rintro e wk ⟨hb, mA, mc, rfl, hom, hmc⟩
      obtain ⟨mb, hmA, hml, m0, mf⟩ := hom p hpn
      subst hmA
      rw [HYX.out] at m0
      have mf0 := mf p
      have HOM : Hid (OwnInt wk wz.heap.size (some ⟨mb, 0, none⟩) st.n Y) := Lib.hid hom
      have HR4 : Hid (LAt W (wk.setCell ⟨mb, p, none⟩ (.int .i64 (yx + (m : Int)))) B qb lo st bx pA gA pc gc tA tn tc (some ⟨lb, 0, none⟩) Y) := Lib.hid (HRm.out.later (Below.setCell hb (by dsimp only; omega) _))
      have HM4 : Hid (OwnInt (wk.setCell ⟨mb, p, none⟩ (.int .i64 (yx + (m : Int)))) wz.heap.size (some ⟨mb, 0, none⟩) st.n (fun t => if t = p then Y t + (m : Int) else Y t)) := Lib.hid (by
        have := HOM.out.raise hpn (m : Int)
        rw [HYX.out] at this
        exact this)
      clear hb hom mf HRm HOM
      go_upto_region 34 with fail
      obtain ⟨s0, s1, s2⟩ := HR4.out.m.s
      go_wp2_with fail
      refine (Sure_any st _ pA gA pc gc (some ⟨mb, 0, none⟩) st.n mc (fun t => if t = p then Y t + (m : Int) else Y t) _ HR4.out.m.r HM4.out.row (by omega)).mono ?_
      rintro e wl ⟨rfl, hb⟩
      have HAX := Lib.hid (lot_ask HST.out (X := fun t => if t = p then Y t + (m : Int) else Y t) (fun i hi => by
        have h1 := HY.out i hi
        by_cases e : i = p
        · subst e
          rw [if_pos rfl]
          rw [HSX.out, HYX.out] at h1 ⊢
          omega
        · rw [if_neg e]
          exact h1))
      have esr : st.sureR st.n (fun t => if t = p then Y t + (m : Int) else Y t) = (st.sureI ((bagOf Y st.n).set p ((bagOf Y st.n).at p + (m : Int))), 0) := by
        unfold St.sureR
        rw [if_neg (by simp [HAX.out]), bag_raise hpn hn4 (m : Int)]
      rw [esr]
      have HR5 := Lib.hid (HR4.out.later hb)
      have hsf := sure_fits HST.out hlt (x := (bagOf Y st.n).set p ((bagOf Y st.n).at p + (m : Int)))
      obtain ⟨sv, hsv⟩ : ∃ sv, st.sureI ((bagOf Y st.n).set p ((bagOf Y st.n).at p + (m : Int))) = sv := ⟨_, rfl⟩
      rw [hsv] at hsf ⊢
      have hyes : (m : Int) = sp → 0 ≤ sp → 0 ≤ sv ∧ sv ≤ (k : Int) := fun e h => hsf.2 (by rw [e]; exact HSP.out.2.1 h)
      have hno : sp < (m : Int) → ¬ (0 ≤ sv ∧ sv ≤ (k : Int)) := fun e h => by
        have h1 := HSP.out.2.2 m (by omega) e
        rw [hsf.1 h] at h1
        cases h1
      have HYN := Lib.hid (And.intro hyes hno)
      have em : IntKind.i64.wrap ((m : Int) + 1) = (m : Int) + 1 := IntWalk.i64_in _ (by omega)
      clear hb s0 s1 s2 HR4 HM4 HAX esr hsf hsv hyes hno m0 mf0 e1
      have hcase : (fe = 0 ∧ nn = sp ∧ ((m : Int) == sp) = true ∧ 0 ≤ sv ∧ sv ≤ (k : Int) ∧ ¬ sp < (m : Int)) ∨ (fe = 0 ∧ nn = sp ∧ ((m : Int) == sp) = false ∧ 0 ≤ sv ∧ sv ≤ (k : Int) ∧ ¬ sp < (m : Int)) ∨
          (fe = 0 ∧ nn = sp ∧ ((m : Int) == sp) = false ∧ sv < 0 ∧ sp < (m : Int)) ∨ (fe = 0 ∧ nn = sp ∧ ((m : Int) == sp) = false ∧ sv < 0 ∧ ¬ sp < (m : Int)) ∨ (fe = 0 ∧ nn = sp ∧ ((m : Int) == sp) = false ∧ 0 ≤ sv ∧ (k : Int) < sv ∧ sp < (m : Int)) ∨ (fe = 0 ∧ nn = sp ∧ ((m : Int) == sp) = false ∧ 0 ≤ sv ∧ (k : Int) < sv ∧ ¬ sp < (m : Int)) ∨
          (fe = 1 ∧ sv < 0) ∨ (fe = 1 ∧ 0 ≤ sv ∧ (k : Int) < sv) := by
        obtain ⟨h1, h2⟩ := HYN.out
        simp only [beq_iff_eq, beq_eq_false_iff_ne, ne_eq]
        rcases HFN.out with ⟨a, b, c⟩ | ⟨a, b, c⟩
        · by_cases e : (m : Int) = sp
          · have := h1 e c
            omega
          · by_cases e2 : sp < (m : Int)
            · have := h2 e2
              omega
            · by_cases e3 : sv < 0 <;> by_cases e4 : (k : Int) < sv <;> omega
        · have := h2 (by omega)
          omega
      clear HYN HFN
      rcases hcase with ⟨rfl, rfl, h1, h2, h3, h4⟩ | ⟨rfl, rfl, h1, h2, h3, h4⟩ | ⟨rfl, rfl, h1, h2, h3⟩ | ⟨rfl, rfl, h1, h2, h3⟩ | ⟨rfl, rfl, h1, h2, h3, h4⟩ | ⟨rfl, rfl, h1, h2, h3, h4⟩ | ⟨rfl, h1⟩ | ⟨rfl, h1, h2⟩
      all_goals
        go_wp2_with fail
        go_roundw
        case rel => exact ⟨m + 1, by omega, by go_num, HR5⟩
        case measure => simp [intOf]; omega
    · go_wp2_with fail
end Go.Proofs.Ytegmomappbehcaa

set_option linter.unusedSimpArgs false
set_option linter.unusedVariables false
namespace Go.Proofs.Ytegmomappbehcaa
open Go.RowKit Go.Shelf

/-- a made store in its box, and a lot -/
structure OutAt (W w : World) (st : St) (b : Nat) (pA gA : Option Addr) (pc gc : Nat) (lA : Option Addr) (X : Nat → Int) : Prop where
  s : StAt w b pA st.n pc gA st.m gc st.lots
  r : StRow w w.heap.size st pA pc gA gc
  l : IntRow w w.heap.size lA st.n X
  b : Below W.heap.size W w
theorem OutAt.later {W w w' : World} {st : St} {b : Nat} {pA gA : Option Addr} {pc gc : Nat} {lA : Option Addr} {X : Nat → Int} (h : OutAt W w st b pA gA pc gc lA X) (hb : Below w.heap.size w w') : OutAt W w' st b pA gA pc gc lA X :=
  ⟨h.s.later hb, h.r.later2 hb, h.l.later hb, h.b.trans (hb.mono h.b.size)⟩
theorem kept_ok {st : St} {X : Nat → Int} {o m : Int} (h0 : st.askErr st.n X = 0) (ho : 0 ≤ o ∧ o ≤ (bagOf X st.n).size) (hm : 0 ≤ m) : st.keptR st.n X o m = (decide (min o (st.hi (bagOf X st.n)) ≤ m), 0) := by
  unfold St.keptR
  rw [if_neg (by simp [h0]), if_neg]
  intro h
  rcases h with h | h
  · rw [show inB o 0 (bagOf X st.n).size = true by simp [inB]; omega] at h; cases h
  · omega
theorem left_ok {st : St} {X : Nat → Int} {o f : Int} (h0 : st.askErr st.n X = 0) (ho : 0 ≤ o ∧ o ≤ (bagOf X st.n).size) (hf : 0 ≤ f ∧ f ≤ o) : st.leftR st.n X o f =
    if min (st.hi (bagOf X st.n)) ((bagOf X st.n).size - o + f) < max (st.lo (bagOf X st.n)) f then (0, 0, 7) else (max (st.lo (bagOf X st.n)) f, min (st.hi (bagOf X st.n)) ((bagOf X st.n).size - o + f), 0) := by
  have e : st.sampErr st.n X o f = if min (st.hi (bagOf X st.n)) ((bagOf X st.n).size - o + f) < max (st.lo (bagOf X st.n)) f then 7 else 0 := by
    unfold St.sampErr
    rw [if_neg (by simp [h0]), if_neg]
    · rfl
    · intro h
      rcases h with h | h
      · rw [show inB o 0 (bagOf X st.n).size = true by simp [inB]; omega] at h; cases h
      · rw [show inB f 0 o = true by simp [inB]; omega] at h; cases h
  unfold St.leftR
  rw [e]
  split
  · rfl
  · rfl

set_option maxRecDepth 100000 in
set_option maxHeartbeats 8000000 in
theorem kept_law (nA : Option Addr) (nn nc : Nat) (many few : Int) (W : World) (hby : ByIn W W.heap.size nA nn) (hln : nn ≤ 9223372036854775807) :
    Calls Try.prog 9 #[.slice nA nn nc, .int .i64 many, .int .i64 few] W fun e W' => e = .returned (.bool true) ∧ Below W.heap.size W W' := by
  have HBY := Lib.hid hby
  clear hby
  go_enter Try.func9, Try.ntmps9
  go_wp2_with fail
  refine (fill_any W.heap.size nA nn nc _ (Nat.le_refl _) HBY.out).mono ?_
  rintro e w1 ⟨cb, rfl, hcb, hb1, hch⟩
  have HB1 := Lib.hid hb1
  have HC1 := Lib.hid hch
  have hs1 := hb1.size
  have hcl : cb < w1.heap.size := by
    obtain ⟨u, z, _, h⟩ := hch
    exact h.lt
  clear hb1 hch
  go_wp2_with fail
  refine (made_any 4 6 (by omega) (by omega) W.heap.size cb nA nn nc hln _ hs1 hcl HC1.out).mono ?_
  rintro e w2 ⟨st, R, pA, gA, rA, pc, gc, rc, rfl, hn, hm, hl, hgood, ⟨gf, gp, hgd⟩, hop, hog, hor, hpc, hgc, hrc, hg2, hch2⟩
  have hn4 : st.n ≤ 4 := by omega
  have HST := Lib.hid (made_ok ⟨hn.1, hn4⟩ hm hl (by omega) hgood hgd)
  have HOP := Lib.hid hop
  have HOG := Lib.hid hog
  have HC2 := Lib.hid hch2
  have HG2 := Lib.hid hg2
  have hs2 := hg2.size
  have hpne : ∀ a, pA = some a → a.block ≠ cb := fun a ha => by
    obtain ⟨b, h1, h2, _⟩ := hop 0 (by omega)
    rw [ha] at h1
    injection h1 with h1
    subst h1
    dsimp only
    omega
  have HPN := Lib.hid hpne
  clear hgood hgd hop hog hor hch2 hg2 hpne hrc
  go_wp2_with fail
  have hba : Below w2.heap.size w2 (w2.alloc (.cells #[.slice pA st.n pc, .slice gA st.m gc, .int .i64 st.lots] 25)) := (by repeat (first | (with_reducible exact Below.refl _ _) | (with_reducible refine Below.drew ?_) | (with_reducible refine below_drewN ?_ _) | ((with_reducible refine below_alloc ?_ ?_ _); · (first | exact Nat.le_refl _ | omega | (simp; done) | (simp; omega) | (simp at *; omega))) | ((with_reducible refine below_set ?_ ?_ _); · (first | exact Nat.le_refl _ | omega | (simp; done) | (simp; omega) | (simp at *; omega))) | ((with_reducible refine below_via (by with_reducible assumption) ?_ ?_); · (first | exact Nat.le_refl _ | omega | (simp; done) | (simp; omega) | (simp at *; omega)))))
  have HSA : Hid (StAt (w2.alloc (.cells #[.slice pA st.n pc, .slice gA st.m gc, .int .i64 st.lots] 25)) w2.heap.size pA st.n pc gA st.m gc st.lots) := Lib.hid (by (repeat' refine And.intro ?_ ?_) <;> (repeat (first | (with_reducible assumption) | (simp; done) | (with_reducible refine cell_drew_of ?_) | (with_reducible refine cell_drewN_of ?_) | (with_reducible refine cell_below_of (by with_reducible assumption) ?_) | ((with_reducible refine cell_new_of ?_ ?_) <;> (first | (with_reducible rfl) | (simp; done))) | ((with_reducible refine fro_new_of ?_) <;> (first | (with_reducible rfl) | (simp; done))) | (with_reducible refine cell_alloc_of _ ?_) | (with_reducible refine cell_set_of _ (by (first | exact Nat.le_refl _ | omega | (simp; done) | (simp; omega))) ?_) | (with_reducible refine fro_drew_of ?_) | (with_reducible refine fro_drewN_of ?_) | (with_reducible refine fro_below_of (by with_reducible assumption) (by (first | exact Nat.le_refl _ | omega | (simp; done) | (simp; omega))) ?_) | (with_reducible refine fro_alloc_of _ (by (first | exact Nat.le_refl _ | omega | (simp; done) | (simp; omega))) ?_) | (with_reducible refine fro_set_of _ ?_))))
  refine (madelot_any st W.heap.size _ cb nA nn nc hln pA gA pc gc _ (StRow.of_own (HOP.out.later hba) (HOG.out.later hba) (by omega) (by omega) hpc hgc) HPN.out hn4 (fun k hk => (HST.out.pk k hk).1) (by simp; omega) (by simp; omega) (HC2.out.later hba)).mono ?_
  rintro e w3 ⟨lA, lc, X, rfl, hol, hlc, hx, hg3, hch3⟩
  have hs3 := hg3.size
  simp only [World.size_alloc] at hs3
  have H3 : Hid (OutAt W w3 st w2.heap.size pA gA pc gc lA X) := Lib.hid ⟨⟨cell_same (hg3.block _ (by simp) (fun e => by injection e with e; omega)) HSA.out.1, cell_same (hg3.block _ (by simp) (fun e => by injection e with e; omega)) HSA.out.2.1, cell_same (hg3.block _ (by simp) (fun e => by injection e with e; omega)) HSA.out.2.2⟩,
    StRow.of_own ((HOP.out.later hba).keep (fun b h1 h2 => hg3.block b h2 (fun e => by injection e with e; omega))) ((HOG.out.later hba).keep (fun b h1 h2 => hg3.block b h2 (fun e => by injection e with e; omega))) (by omega) (by omega) hpc hgc, hol.row,
    (HB1.out.trans (gb_below HG2.out hs1 hcb)).trans ((hba.mono (by omega)).trans (gb_below hg3 (by simp; omega) hcb))⟩
  have HX := Lib.hid hx
  have HA := Lib.hid (lot_ask HST.out hx)
  have hszb := St.size_bd HST.out (bagOf_in (St.askErr_ok HA.out).2.1)
  have hhib := St.hi_bd HST.out (bagOf_in (St.askErr_ok HA.out).2.1)
  have hlob := St.lo_bd HST.out (bagOf_in (St.askErr_ok HA.out).2.1)
  have HHS := Lib.hid (hi_sum (X := X) hn4)
  have HSU := Lib.hid (bag_sum (X := X) hn4)
  clear hba HSA HOP HOG HC2 HG2 HPN HB1 HC1 hol hlc hx hg3 hch3
  go_wp2_with fail
  refine (total_any lA st.n lc X _ H3.out.l (by omega) (fun k hk => by have h1 := HX.out k hk; have h2 := (HST.out.pk k hk).1; omega)).mono ?_
  rintro e w4 ⟨rfl, hb⟩
  rw [HSU.out]
  have H4 := Lib.hid (H3.out.later hb)
  clear hb H3
  obtain ⟨sz, hsz⟩ : ∃ sz, (bagOf X st.n).size = sz := ⟨_, rfl⟩
  have HSZ := Lib.hid hsz
  rw [hsz] at hszb ⊢
  clear hsz
  have ew : IntKind.i64.wrap (sz + 1) = sz + 1 := IntWalk.i64_in _ (by omega)
  go_wp2_with fail
  refine (wrap_any many (sz + 1) (by omega) _).mono ?_
  rintro e w ⟨op, rfl, ho0, ho1, rfl⟩
  have hop : 0 ≤ op ∧ op ≤ sz := by omega
  clear ho0 ho1
  go_wp2_with fail
  refine (wrap_any few 6 (by omega) _).mono ?_
  rintro e w ⟨ms, rfl, hm0, hm1, rfl⟩
  have HKE : Hid (∀ m, 0 ≤ m → st.keptR st.n X op m = (decide (min op (st.hi (bagOf X st.n)) ≤ m), 0)) := Lib.hid (fun m h => kept_ok HA.out (by rw [HSZ.out]; exact hop) h)
  have HLE : Hid (∀ f, 0 ≤ f → f ≤ op → st.leftR st.n X op f = if min (st.hi (bagOf X st.n)) (sz - op + f) < max (st.lo (bagOf X st.n)) f then (0, 0, 7) else (max (st.lo (bagOf X st.n)) f, min (st.hi (bagOf X st.n)) (sz - op + f), 0)) := Lib.hid (fun f h1 h2 => by rw [left_ok HA.out (by rw [HSZ.out]; exact hop) ⟨h1, h2⟩, HSZ.out])
  obtain ⟨s0, s1, s2⟩ := H4.out.s
  go_wp2_with fail
  refine (Kept_any st _ pA gA pc gc lA st.n lc X op ms _ H4.out.r H4.out.l (by omega)).mono ?_
  rintro e w5 ⟨rfl, hb⟩
  rw [HKE.out ms hm0]
  have H5 := Lib.hid (H4.out.later hb)
  clear hb s0 s1 s2 H4
  obtain ⟨s0, s1, s2⟩ := H5.out.s
  go_wp2_with fail
  refine (Bad_any st _ pA gA pc gc lA st.n lc X _ H5.out.r H5.out.l (by omega)).mono ?_
  rintro e w6 ⟨hb, hp⟩
  rcases hp with ⟨_, bA, bc, iA, ic, rfl, hr1, hr2, hc1, hc2⟩ | ⟨h0, _⟩
  · have H6 := Lib.hid (H5.out.later hb)
    have HI6 := Lib.hid hr2
    clear hb hr1 hr2 s0 s1 s2 H5
    obtain ⟨s0, s1, s2⟩ := H6.out.s
    go_wp2_with fail
    refine (Span_any st _ pA gA pc gc lA st.n lc X _ H6.out.r H6.out.l (by omega)).mono ?_
    rintro e w7 ⟨rfl, hb⟩
    have esp : st.spanR st.n X = (st.lo (bagOf X st.n), st.hi (bagOf X st.n), 0) := by unfold St.spanR; rw [if_neg (by simp [HA.out])]
    rw [esp]
    have H7 := Lib.hid (H6.out.later hb)
    have HI7 := Lib.hid (HI6.out.later hb)
    clear hb s0 s1 s2 H6 HI6 esp
    obtain ⟨hi, hhi⟩ : ∃ hi, st.hi (bagOf X st.n) = hi := ⟨_, rfl⟩
    obtain ⟨lo, hlo⟩ : ∃ lo, st.lo (bagOf X st.n) = lo := ⟨_, rfl⟩
    rw [hhi] at HKE HLE HHS hhib ⊢
    rw [hlo] at HLE hlob ⊢
    clear hhi hlo
    go_wp2_with fail
    have hba : Below w7.heap.size w7 (w7.alloc (.cells #[.int .i64 lo, .int .i64 hi] 50)) := (by repeat (first | (with_reducible exact Below.refl _ _) | (with_reducible refine Below.drew ?_) | (with_reducible refine below_drewN ?_ _) | ((with_reducible refine below_alloc ?_ ?_ _); · (first | exact Nat.le_refl _ | omega | (simp; done) | (simp; omega) | (simp at *; omega))) | ((with_reducible refine below_set ?_ ?_ _); · (first | exact Nat.le_refl _ | omega | (simp; done) | (simp; omega) | (simp at *; omega))) | ((with_reducible refine below_via (by with_reducible assumption) ?_ ?_); · (first | exact Nat.le_refl _ | omega | (simp; done) | (simp; omega) | (simp at *; omega)))))
    refine (total_any iA st.n ic (fun k => (st.P k).hiOf (X k)) _ (HI7.out.later hba) (by omega) (fun k hk => by
      have h1 := HX.out k hk
      have h2 := Pk.hi_bd (HST.out.pk k hk)
      have h3 := (HST.out.pk k hk).1
      show -100 ≤ min (X k) (st.P k).hi ∧ min (X k) (st.P k).hi ≤ 100
      omega)).mono ?_
    rintro e w8 ⟨rfl, hb⟩
    rw [HHS.out]
    have H8 := Lib.hid ((H7.out.later hba).later hb)
    have HN8 : Hid (N2At w8 w7.heap.size lo hi) := Lib.hid ((show N2At (w7.alloc (.cells #[.int .i64 lo, .int .i64 hi] 50)) w7.heap.size lo hi from (by (repeat' refine And.intro ?_ ?_) <;> (repeat (first | (with_reducible assumption) | (simp; done) | (with_reducible refine cell_drew_of ?_) | (with_reducible refine cell_drewN_of ?_) | (with_reducible refine cell_below_of (by with_reducible assumption) ?_) | ((with_reducible refine cell_new_of ?_ ?_) <;> (first | (with_reducible rfl) | (simp; done))) | ((with_reducible refine fro_new_of ?_) <;> (first | (with_reducible rfl) | (simp; done))) | (with_reducible refine cell_alloc_of _ ?_) | (with_reducible refine cell_set_of _ (by (first | exact Nat.le_refl _ | omega | (simp; done) | (simp; omega))) ?_) | (with_reducible refine fro_drew_of ?_) | (with_reducible refine fro_drewN_of ?_) | (with_reducible refine fro_below_of (by with_reducible assumption) (by (first | exact Nat.le_refl _ | omega | (simp; done) | (simp; omega))) ?_) | (with_reducible refine fro_alloc_of _ (by (first | exact Nat.le_refl _ | omega | (simp; done) | (simp; omega))) ?_) | (with_reducible refine fro_set_of _ ?_))))).later hb)
    have hbb : (decide (min op hi ≤ ms) != decide (min op hi ≤ ms)) = false := by simp
    clear hb hba H7 HI7
    obtain ⟨on, rfl⟩ := Int.eq_ofNat_of_zero_le hop.1
    have ew2 : IntKind.i64.wrap ((on : Int) + 1) = (on : Int) + 1 := IntWalk.i64_in _ (by omega)
    go_wp2_with fail
    go_loopw [89] (fun i wr => ∃ k : Nat, k ≤ on + 1 ∧ i = .int .i64 k ∧ Hid (OutAt W wr st w2.heap.size pA gA pc gc lA X) ∧ Hid (N2At wr w7.heap.size lo hi)) (fun i _ => on + 1 - (intOf i).toNat)
    case atStart => exact ⟨0, Nat.zero_le _, rfl, H8, HN8⟩
    case round =>
      clear H8 HN8
      obtain ⟨k, hk, rfl, HR, HN⟩ := hrel
      by_cases hlt : k < on + 1
      · have hkn : (k : Int) < (on : Int) + 1 := by omega
        have HL := Lib.hid (HLE.out k (by omega) (by omega))
        obtain ⟨s0, s1, s2⟩ := HR.out.s
        go_wp2_with fail
        refine (Left_any st _ pA gA pc gc lA st.n lc X on k _ HR.out.r HR.out.l (by omega)).mono ?_
        rintro e wa ⟨rfl, hb⟩
        rw [HL.out]
        have Ha := Lib.hid (HR.out.later hb)
        have HNa := Lib.hid (HN.out.later hb)
        have e1 : IntKind.i64.wrap (sz - (on : Int)) = sz - (on : Int) := IntWalk.i64_in _ (by omega)
        have e2 : IntKind.i64.wrap (sz - (on : Int) + (k : Int)) = sz - (on : Int) + (k : Int) := IntWalk.i64_in _ (by omega)
        clear hb s0 s1 s2
        by_cases hcl : min hi (sz - (on : Int) + (k : Int)) < max lo (k : Int)
        · rw [if_pos hcl]
          have hba : Below wa.heap.size wa (wa.alloc (.cells #[.int .i64 0, .int .i64 0] 50)) := (by repeat (first | (with_reducible exact Below.refl _ _) | (with_reducible refine Below.drew ?_) | (with_reducible refine below_drewN ?_ _) | ((with_reducible refine below_alloc ?_ ?_ _); · (first | exact Nat.le_refl _ | omega | (simp; done) | (simp; omega) | (simp at *; omega))) | ((with_reducible refine below_set ?_ ?_ _); · (first | exact Nat.le_refl _ | omega | (simp; done) | (simp; omega) | (simp at *; omega))) | ((with_reducible refine below_via (by with_reducible assumption) ?_ ?_); · (first | exact Nat.le_refl _ | omega | (simp; done) | (simp; omega) | (simp at *; omega)))))
          obtain ⟨⟨n0, n1⟩, _⟩ := HNa.out.later hba
          have HB := Lib.hid (Ha.out.later hba)
          have HNB := Lib.hid (HNa.out.later hba)
          clear hba
          go_upto_region 16 with fail
          refine region_qbw (by kernel_rfl) (by kernel_rfl) ?_
          have x0 := cell_regrown n0
          have x1 := cell_regrown n1
          clear n0 n1
          repeat (first | go_big_quiet_step (fail) | quiet_step (fail))
          refine wpQuiet_nil ?_; intro wq hbq
          have HQ := Lib.hid (HB.out.later hbq)
          have HNQ := Lib.hid (HNB.out.later hbq)
          clear x0 x1 hbq
          go_wp2_with fail
          go_roundw
          case rel => exact ⟨k + 1, by omega, by go_num, HQ, HNQ⟩
          case measure => simp [intOf]; omega
        · rw [if_neg hcl]
          have hba : Below wa.heap.size wa (wa.alloc (.cells #[.int .i64 (max lo (k : Int)), .int .i64 (min hi (sz - (on : Int) + (k : Int)))] 50)) := (by repeat (first | (with_reducible exact Below.refl _ _) | (with_reducible refine Below.drew ?_) | (with_reducible refine below_drewN ?_ _) | ((with_reducible refine below_alloc ?_ ?_ _); · (first | exact Nat.le_refl _ | omega | (simp; done) | (simp; omega) | (simp at *; omega))) | ((with_reducible refine below_set ?_ ?_ _); · (first | exact Nat.le_refl _ | omega | (simp; done) | (simp; omega) | (simp at *; omega))) | ((with_reducible refine below_via (by with_reducible assumption) ?_ ?_); · (first | exact Nat.le_refl _ | omega | (simp; done) | (simp; omega) | (simp at *; omega)))))
          obtain ⟨⟨n0, n1⟩, _⟩ := HNa.out.later hba
          have HB := Lib.hid (Ha.out.later hba)
          have HNB := Lib.hid (HNa.out.later hba)
          have HNL : Hid (N2At (wa.alloc (.cells #[.int .i64 (max lo (k : Int)), .int .i64 (min hi (sz - (on : Int) + (k : Int)))] 50)) wa.heap.size (max lo (k : Int)) (min hi (sz - (on : Int) + (k : Int)))) := Lib.hid (by (repeat' refine And.intro ?_ ?_) <;> (repeat (first | (with_reducible assumption) | (simp; done) | (with_reducible refine cell_drew_of ?_) | (with_reducible refine cell_drewN_of ?_) | (with_reducible refine cell_below_of (by with_reducible assumption) ?_) | ((with_reducible refine cell_new_of ?_ ?_) <;> (first | (with_reducible rfl) | (simp; done))) | ((with_reducible refine fro_new_of ?_) <;> (first | (with_reducible rfl) | (simp; done))) | (with_reducible refine cell_alloc_of _ ?_) | (with_reducible refine cell_set_of _ (by (first | exact Nat.le_refl _ | omega | (simp; done) | (simp; omega))) ?_) | (with_reducible refine fro_drew_of ?_) | (with_reducible refine fro_drewN_of ?_) | (with_reducible refine fro_below_of (by with_reducible assumption) (by (first | exact Nat.le_refl _ | omega | (simp; done) | (simp; omega))) ?_) | (with_reducible refine fro_alloc_of _ (by (first | exact Nat.le_refl _ | omega | (simp; done) | (simp; omega))) ?_) | (with_reducible refine fro_set_of _ ?_))))
          clear hba
          go_upto_region 16 with fail
          refine region_qbw (by kernel_rfl) (by kernel_rfl) ?_
          have x0 := cell_regrown n0
          have x1 := cell_regrown n1
          clear n0 n1
          repeat (first | go_big_quiet_step (fail) | quiet_step (fail))
          refine wpQuiet_nil ?_; intro wq hbq
          have HQ := Lib.hid (HB.out.later hbq)
          have HNQ := Lib.hid (HNB.out.later hbq)
          have HNLQ := Lib.hid (HNL.out.later hbq)
          clear x0 x1 hbq
          generalize max lo (k : Int) = a at hcl HNLQ ⊢
          generalize min hi (sz - (on : Int) + (k : Int)) = b at hcl HNLQ ⊢
          obtain ⟨⟨n0, n1⟩, _⟩ := HNLQ.out
          have ha1 : (a != a) = false := by simp
          have hb1 : (b != b) = false := by simp
          go_wp2_with fail
          refine region_qbw (by kernel_rfl) (by kernel_rfl) ?_
          have x0 := cell_regrown n0
          have x1 := cell_regrown n1
          clear n0 n1
          repeat (first | go_big_quiet_step ((go_at_call 52; exact Calls.regrown_of (span_fn _ _ _))) | quiet_step ((go_at_call 52; exact Calls.regrown_of (span_fn _ _ _))))
          refine wpQuiet_nil ?_; intro wt hbt
          have HT := Lib.hid (HQ.out.later hbt)
          have HNT := Lib.hid (HNQ.out.later hbt)
          clear x0 x1 hbt
          go_wp2_with fail
          go_roundw
          case rel => exact ⟨k + 1, by omega, by go_num, HT, HNT⟩
          case measure => simp [intOf]; omega
      · obtain rfl : k = on + 1 := by omega
        have hge : ¬ ((on + 1 : Nat) : Int) < (on : Int) + 1 := by omega
        obtain ⟨s0, s1, s2⟩ := HR.out.s
        go_wp2_with fail
        refine (Kept_any st _ pA gA pc gc lA st.n lc X on 0 _ HR.out.r HR.out.l (by omega)).mono ?_
        rintro e wa ⟨rfl, hb⟩
        rw [HKE.out 0 (by omega)]
        have Ha := Lib.hid (HR.out.later hb)
        have HNa := Lib.hid (HN.out.later hb)
        clear hb s0 s1 s2
        obtain ⟨s0, s1, s2⟩ := Ha.out.s
        go_wp2_with fail
        refine (Kept_any st _ pA gA pc gc lA st.n lc X on sz _ Ha.out.r Ha.out.l (by omega)).mono ?_
        rintro e wb ⟨rfl, hb⟩
        rw [HKE.out sz (by omega), show decide (min (on : Int) hi ≤ sz) = true by simp; omega]
        have Hb := Lib.hid (Ha.out.b.trans (hb.mono Ha.out.b.size))
        have HNb := Lib.hid (HNa.out.later hb)
        clear hb s0 s1 s2
        obtain ⟨⟨n0, n1⟩, _⟩ := HNb.out
        obtain ⟨d, hd⟩ : ∃ d, decide (min (on : Int) hi ≤ 0) = d := ⟨_, rfl⟩
        rw [hd]
        by_cases h1 : (on : Int) = 0
        · have hq : ((on : Int) == 0) = true := by simpa using h1
          have hdt : d = true := by rw [← hd]; simp; omega
          subst hdt
          clear hd h1
          go_wp2_with fail
          refine (awake_any _).mono ?_
          rintro e wc ⟨rfl, hb⟩
          have Hc := Lib.hid (Hb.out.trans (hb.mono Hb.out.size))
          clear hb
          go_wp2_with fail
          go_ret
          exact ⟨rfl, Hc.out⟩
        · have hq : ((on : Int) == 0) = false := by simpa using h1
          by_cases h2 : hi = 0
          · have hq2 : (hi == 0) = true := by simpa using h2
            have hdt : d = true := by rw [← hd]; simp; omega
            subst hdt
            clear hd h1 h2
            go_wp2_with fail
            refine (awake_any _).mono ?_
            rintro e wc ⟨rfl, hb⟩
            have Hc := Lib.hid (Hb.out.trans (hb.mono Hb.out.size))
            clear hb
            go_wp2_with fail
            go_ret
            exact ⟨rfl, Hc.out⟩
          · have hq2 : (hi == 0) = false := by simpa using h2
            have hdt : d = false := by rw [← hd]; simp; omega
            subst hdt
            clear hd h1 h2
            go_wp2_with fail
            refine (awake_any _).mono ?_
            rintro e wc ⟨rfl, hb⟩
            have Hc := Lib.hid (Hb.out.trans (hb.mono Hb.out.size))
            clear hb
            go_wp2_with fail
            go_ret
            exact ⟨rfl, Hc.out⟩
  · exact absurd HA.out h0
end Go.Proofs.Ytegmomappbehcaa
