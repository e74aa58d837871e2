/- Shuffled. -/
import Derived.Test.YtnnikeolgknfoaaJa
import Derived.Laws.OwnMore
set_option linter.unusedSimpArgs false
set_option linter.unusedVariables false
namespace Go.Proofs.Ytnnikeolgknfoaa
open Go.RowKit Go.Shelf

theorem numCells_set (X : Nat → Int) {n j : Nat} (hj : j < n) (v : Int) : (numCells X n).set j (.int .i64 v) = numCells (fun t => if t = j then v else X t) n := by
  apply List.ext_getElem?
  intro i
  by_cases hi : i < n
  · rw [numCells_get _ hi, List.getElem?_set]
    by_cases e : j = i
    · subst e
      rw [if_pos rfl, if_pos (by rw [numCells_len]; exact hj), if_pos rfl]
    · rw [if_neg e, numCells_get _ hi, if_neg (fun h => e h.symm)]
  · rw [List.getElem?_eq_none (by rw [List.length_set, numCells_len]; omega), List.getElem?_eq_none (by rw [numCells_len]; omega)]
/-- numbers from 0 to k - 1, each once -/
def PermN (k : Nat) (X : Nat → Int) : Prop := (∀ i, i < k → 0 ≤ X i ∧ X i < (k : Int)) ∧ ∀ i j, i < k → j < k → X i = X j → i = j
theorem PermN.put {k j : Nat} {X : Nat → Int} (h : PermN k X) (hj : j ≤ k) : PermN (k + 1) (fun t => if t = j then (k : Int) else if t = k then (if j = k then (k : Int) else X j) else if t = k then (k : Int) else X t) := by
  obtain ⟨h1, h2⟩ := h
  refine ⟨fun i hi => ?_, fun a b ha hb e => ?_⟩
  · dsimp only
    by_cases e1 : i = j
    · rw [if_pos e1]; omega
    · rw [if_neg e1]
      by_cases e2 : i = k
      · rw [if_pos e2]
        by_cases e3 : j = k
        · rw [if_pos e3]; omega
        · rw [if_neg e3]
          have := h1 j (by omega)
          omega
      · rw [if_neg e2, if_neg e2]
        have := h1 i (by omega)
        omega
  · dsimp only at e
    by_cases a1 : a = j <;> by_cases b1 : b = j
    · omega
    · rw [if_pos a1, if_neg b1] at e
      by_cases b2 : b = k
      · rw [if_pos b2] at e
        by_cases e3 : j = k
        · omega
        · rw [if_neg e3] at e
          have := h1 j (by omega)
          omega
      · rw [if_neg b2, if_neg b2] at e
        have := h1 b (by omega)
        omega
    · rw [if_neg a1, if_pos b1] at e
      by_cases a2 : a = k
      · rw [if_pos a2] at e
        by_cases e3 : j = k
        · omega
        · rw [if_neg e3] at e
          have := h1 j (by omega)
          omega
      · rw [if_neg a2, if_neg a2] at e
        have := h1 a (by omega)
        omega
    · rw [if_neg a1, if_neg b1] at e
      by_cases a2 : a = k <;> by_cases b2 : b = k
      · omega
      · rw [if_pos a2, if_neg b2, if_neg b2] at e
        by_cases e3 : j = k
        · omega
        · rw [if_neg e3] at e
          have := h2 j b (by omega) (by omega) e
          omega
      · rw [if_neg a2, if_neg a2, if_pos b2] at e
        by_cases e3 : j = k
        · omega
        · rw [if_neg e3] at e
          have := h2 a j (by omega) (by omega) e
          omega
      · rw [if_neg a2, if_neg a2, if_neg b2, if_neg b2] at e
        exact h2 a b (by omega) (by omega) e
theorem grow_set {W w : World} {cb g i : Nat} (h : W.grownBy w (some cb)) (hg : W.heap.size ≤ g) (v : Value) : W.grownBy (w.setCell ⟨g, i, none⟩ v) (some cb) :=
  ⟨h.os, h.tape, h.output, by simp [World.setCell]; exact h.size, fun k hk hn => (set_heap _ (by dsimp only; omega)).trans (h.block k hk hn)⟩
/-- what Shuffled gives -/
def ShufPost (n B cb : Nat) (lA : Option Addr) (ln lc : Nat) (W : World) (e : Ending) (W' : World) : Prop :=
  ∃ (A : Option Addr) (c : Nat) (X : Nat → Int), e = .returned (.slice A n c) ∧ OwnInt W' W.heap.size A n X ∧ n ≤ c ∧ PermN n X ∧ W.grownBy W' (some cb) ∧ Chute W' B cb lA ln lc

set_option maxRecDepth 100000 in
set_option maxHeartbeats 2000000 in
theorem shuffled_any (B cb : Nat) (lA : Option Addr) (ln lc n : Nat) (hn : n ≤ 200) (hln : ln ≤ 9223372036854775807) (W : World) (hB : B ≤ W.heap.size) (hcb : cb < W.heap.size) (hc : Chute W B cb lA ln lc) :
    Calls Try.prog 14 #[.pointer (some ⟨cb, 0, none⟩), .int .i64 (n : Int)] W (ShufPost n B cb lA ln lc W) := by
  have HC := Lib.hid hc
  clear hc
  obtain ⟨i0, hi, hz0, hz1, hz2⟩ := info_parts infoInt
  have hmx : max (n : Int) 0 = (n : Int) := by omega
  have HG1 := Lib.hid (World.grownBy.refl W (some cb))
  go_enter Try.func14, Try.ntmps14
  go_wp2_with fail
  go_loopw [5, 11] (fun v i wr => ∃ (k : Nat) (X : Nat → Int), k ≤ n ∧ i = .int .i64 k ∧ Hid (wr.ownsRow W.heap.size 3 1 v k (numCells X k)) ∧ Hid (PermN k X) ∧ Hid (Chute wr B cb lA ln lc) ∧ Hid (W.grownBy wr (some cb))) (fun _ i _ => n - (intOf i).toNat)
  case atStart => exact ⟨0, fun _ => 0, Nat.zero_le _, rfl, Lib.hid (World.ownsRow_nil _ _ _ _), Lib.hid ⟨fun i h => absurd h (by omega), fun i j h => absurd h (by omega)⟩, HC, HG1⟩
  case round =>
    clear HC HG1
    obtain ⟨k, X, hk, rfl, hown, hxs, hch, hg⟩ := hrel
    have hsw := hg.out.size
    by_cases hlt : k < n
    · have hkn : (k : Int) < (n : Int) := by omega
      have hk0 : (0 : Int) ≤ (k : Int) := by omega
      have e1 : IntKind.i64.wrap ((k : Int) + 1) = (k : Int) + 1 := IntWalk.i64_in _ (by omega)
      have hv1 := hown.out.lt
      go_wp2_with (at_builtin; refine wpList_append_lies _ rfl (.tmp 14) (.tmp 16) 28 rfl W.heap.size 3 i0 (.int .i64 0) 1 8 ints_under hi hz0 hz1 hz2 rfl (by decide) u5 k (numCells X k) rfl (hown.out.alloc _) ⟨wr.heap.size, 0, none⟩ 1 1 [.int .i64 (k : Int)] rfl rfl (new_cells (cs := [.int .i64 (k : Int)])) (by intro u hu; simp only [List.mem_cons, List.not_mem_nil, or_false] at hu; subst hu; rfl) (by omega) (by unfold maxLen; omega) (by omega) (by simp; omega) (wr.heap.size + 1) (by simp) ?_; intro g cap w6 hown6 hgr6 hat6 hlt6)
      have HO6 : Hid (w6.ownsRow W.heap.size 3 1 (.slice (some ⟨g, 0, none⟩) (k + 1) cap) (k + 1) (numCells (fun j => if j = k then (k : Int) else X j) (k + 1))) := Lib.hid (by rw [← numCells_put]; exact hown6)
      have hkeep : ∀ i, i < W.heap.size → w6.heap[i]? = wr.heap[i]? := fun i hi => (hgr6.block i (by simp; omega) (fun e => by have := (hv1 i e.symm).1; omega)).trans (Below.heap_alloc _ _ _ (by omega))
      have HC6 : Hid (Chute w6 B cb lA ln lc) := Lib.hid (hch.out.keep (fun i hi => hkeep i (by omega)))
      have HG6 : Hid (W.grownBy w6 (some cb)) := Lib.hid ⟨hgr6.os.trans hg.out.os, hgr6.tape.trans hg.out.tape, hgr6.output.trans hg.out.output, by have := hgr6.size; simp at this; omega, fun i hi hn => (hkeep i hi).trans (hg.out.block i hi hn)⟩
      clear hown6 hgr6 hat6 hlt6 hkeep hch hg hown
      go_wp2_with fail
      refine (pull_any B cb lA ln lc ((k : Int) + 1) (by omega) hln _ HC6.out).mono ?_
      rintro e w7 ⟨x, rfl, hx0, hx1, hg7, hc7⟩
      obtain ⟨j, rfl⟩ := Int.eq_ofNat_of_zero_le hx0
      have hjk : j ≤ k := by omega
      have hjn : (j : Int) < ((k + 1 : Nat) : Int) := by omega
      have hkk : (k : Int) < ((k + 1 : Nat) : Int) := by omega
      have HO7 := Lib.hid (own_keep HO6.out hg7 hcb)
      have HG7 := Lib.hid (gb_trans HG6.out hg7)
      have HC7 := Lib.hid hc7
      obtain ⟨A, c, hA, hr, _⟩ := ownInt_of HO7.out
      injection hA with hA1 hA2 hA3
      subst hA1
      obtain ⟨b2, hb2, hbl, ck, fk⟩ := hr k (by omega)
      injection hb2 with hb2
      injection hb2 with hb2
      subst hb2
      dsimp only at ck
      rw [if_pos rfl] at ck
      obtain ⟨b2, hb2, _, cj, _⟩ := hr j (by omega)
      injection hb2 with hb2
      injection hb2 with hb2
      subst hb2
      dsimp only at cj
      obtain ⟨zj, hzj⟩ : ∃ z, (if j = k then (k : Int) else X j) = z := ⟨_, rfl⟩
      rw [hzj] at cj
      have HZJ := Lib.hid hzj
      have fk0 := fk k
      have fj0 := fk j
      clear hx0 hx1 hg7 hc7 hr hzj fk hA2 hA3 HO6 HC6 HG6
      have cj2 : (w7.setCell ⟨g, k, none⟩ (.int .i64 zj)).cell? ⟨g, j, none⟩ = some (.int .i64 zj) := by
        by_cases e : j = k
        · subst e
          exact World.cell?_setCell_same' _ _ _ (by rw [ck]; rfl)
        · rw [World.cell?_setCell_other _ _ _ _ (by intro e; injection e with _ e _; omega)]
          exact cj
      have fj2 : (w7.setCell ⟨g, k, none⟩ (.int .i64 zj)).frozen? ⟨g, j, none⟩ = false := fro_set_of _ fj0
      go_wp2_with fail
      have HO9 : Hid (((w7.setCell ⟨g, k, none⟩ (.int .i64 zj)).setCell ⟨g, j, none⟩ (.int .i64 (k : Int))).ownsRow W.heap.size 3 1 (.slice (some ⟨g, 0, none⟩) (k + 1) cap) (k + 1) (numCells (fun t => if t = j then (k : Int) else if t = k then (if j = k then (k : Int) else X j) else if t = k then (k : Int) else X t) (k + 1))) := Lib.hid (by
        have h1 := (HO7.out.stored k (.int .i64 zj)).1
        rw [numCells_set _ (by omega)] at h1
        have h2 := (h1.stored j (.int .i64 (k : Int))).1
        rw [numCells_set _ (by omega), ← HZJ.out] at h2
        rw [← HZJ.out]
        exact h2)
      have HP9 := Lib.hid (hxs.out.put hjk)
      have hwg : W.heap.size ≤ g := hbl
      have HC9 : Hid (Chute ((w7.setCell ⟨g, k, none⟩ (.int .i64 zj)).setCell ⟨g, j, none⟩ (.int .i64 (k : Int))) B cb lA ln lc) := Lib.hid (HC7.out.keep (fun i hi => (set_heap _ (by dsimp only; omega)).trans (set_heap _ (by dsimp only; omega))))
      have HG9 := Lib.hid (grow_set (i := j) (grow_set (i := k) HG7.out hwg (.int .i64 zj)) hwg (.int .i64 (k : Int)))
      go_roundw
      case rel => exact ⟨k + 1, _, by omega, by go_num, HO9, HP9, HC9, HG9⟩
      case measure => simp [intOf]; omega
    · obtain rfl : k = n := by omega
      have hge : ¬ (k : Int) < (k : Int) := by omega
      obtain ⟨A, c, rfl, hr, hcl⟩ := ownInt_of hown.out
      have HR := Lib.hid hr
      clear hr
      go_wp2_with fail
      go_ret
      exact ⟨A, c, X, rfl, HR.out, hcl, hxs.out, hg.out, hch.out⟩
end Go.Proofs.Ytnnikeolgknfoaa
