/- The reference: whole, lots. -/
import Derived.Test.YtegmomappbehcaaTe
import Derived.Test.YtegmomappbehcaaWs
import Derived.Laws.AppendOwnNone
set_option linter.unusedSimpArgs false
set_option linter.unusedVariables false
namespace Go.Proofs.Ytegmomappbehcaa
open Go.RowKit Go.Shelf

/-- all bags within one of the first i pickings, in lexicographic order -/
def pre (left : Bag) : Nat → List Bag
  | 0 => [bagZ]
  | i + 1 => (pre left i).flatMap fun b => (List.range (left.at i + 1).toNat).map fun n : Nat => b.set i n
theorem pre_exts (left : Bag) : ∀ r, r ≤ 4 → (pre left (4 - r)).flatMap (fun b => exts left r b) = bagsOf left := by
  intro r hr
  obtain ⟨d, hd⟩ : ∃ d, d = 4 - r := ⟨_, rfl⟩
  induction d generalizing r with
  | zero =>
    obtain rfl : r = 4 := by omega
    simp [pre, bagsOf]
  | succ d ih =>
    have h1 := ih (r + 1) (by omega) (by omega)
    rw [← h1, show 4 - r = (4 - (r + 1)) + 1 by omega, pre]
    rw [List.flatMap_assoc]
    congr 1
    funext b
    rw [exts, List.flatMap_map, show 3 - r = 4 - (r + 1) by omega]
theorem pre_all (left : Bag) : pre left 4 = bagsOf left := by
  have := pre_exts left 0 (by omega)
  simp only [Nat.sub_zero, exts] at this
  rw [← this]
  simp
theorem pre_zero {left : Bag} {i : Nat} (h4 : i < 4) (h : left.at i = 0) (hz : ∀ b ∈ pre left i, b.at i = 0) : pre left (i + 1) = pre left i := by
  rw [pre, h]
  have : ∀ b ∈ pre left i, ((List.range ((0 : Int) + 1).toNat).map fun n : Nat => b.set i n) = [b] := fun b hb => by
    show [b.set i ((0 : Nat) : Int)] = [b]
    congr 1
    refine Bag.ext_at (fun k hk => ?_)
    rw [Bag.at_set h4]
    split
    · subst k; rw [hz b hb]; rfl
    · rfl
  clear h hz
  generalize pre left i = L at this ⊢
  induction L with
  | nil => rfl
  | cons x L ih =>
    rw [List.flatMap_cons, this x List.mem_cons_self, ih (fun b hb => this b (List.mem_cons_of_mem _ hb))]
    rfl
theorem pre_mem {left : Bag} : ∀ {i : Nat} {b : Bag}, i ≤ 4 → b ∈ pre left i → (∀ k, k < i → 0 ≤ b.at k ∧ b.at k ≤ left.at k) ∧ ∀ k, i ≤ k → k < 4 → b.at k = 0
  | 0, b, _, h => by
    simp only [pre, List.mem_singleton] at h
    subst h
    refine ⟨fun k hk => absurd hk (by omega), fun k _ hk => ?_⟩
    match k, hk with
    | 0, _ | 1, _ | 2, _ | 3, _ => rfl
  | i + 1, b, hi, h => by
    simp only [pre, List.mem_flatMap, List.mem_map, List.mem_range] at h
    obtain ⟨x, hx, n, hn, rfl⟩ := h
    obtain ⟨h1, h2⟩ := pre_mem (by omega) hx
    refine ⟨fun k hk => ?_, fun k hk hk4 => ?_⟩
    · rw [Bag.at_set (by omega)]
      split
      · subst k; omega
      · exact h1 k (by omega)
    · rw [Bag.at_set (by omega), if_neg (by omega)]
      exact h2 k (by omega) hk4
theorem pre_n {left : Bag} {n : Nat} (hn : n ≤ 4) (h : ∀ k, n ≤ k → k < 4 → left.at k = 0) : pre left n = bagsOf left := by
  rw [← pre_all]
  have key : ∀ d, n + d ≤ 4 → pre left (n + d) = pre left n := by
    intro d
    induction d with
    | zero => intro _; rfl
    | succ d ih =>
      intro hd
      rw [show n + (d + 1) = (n + d) + 1 by omega, pre_zero (by omega) (h _ (by omega) (by omega)) (fun b hb => (pre_mem (by omega) hb).2 _ (Nat.le_refl _) (by omega)), ih (by omega)]
  rw [show 4 = n + (4 - n) by omega, key _ (by omega)]
/-- as far as the bags before the k-th were followed -/
def preK (left : Bag) (i k : Nat) : List Bag := ((pre left i).take k).flatMap fun b => (List.range (left.at i + 1).toNat).map fun n : Nat => b.set i n
theorem preK_zero (left : Bag) (i : Nat) : preK left i 0 = [] := rfl
theorem preK_succ {left : Bag} {i k : Nat} {x : Bag} (h : (pre left i)[k]? = some x) : preK left i (k + 1) = preK left i k ++ (List.range (left.at i + 1).toNat).map fun n : Nat => x.set i n := by
  unfold preK
  have hk : k < (pre left i).length := (List.getElem?_eq_some_iff.1 h).1
  have he : (pre left i)[k] = x := (List.getElem?_eq_some_iff.1 h).2
  rw [List.take_succ_eq_append_getElem hk, List.flatMap_append, he]
  simp
theorem preK_all (left : Bag) (i : Nat) : preK left i (pre left i).length = pre left (i + 1) := by
  unfold preK
  rw [List.take_length]
  rfl
theorem pre_length {left : Bag} (h6 : ∀ k, k < 4 → left.at k ≤ 6) : ∀ i, i ≤ 4 → (pre left i).length ≤ 7 ^ i
  | 0, _ => by simp [pre]
  | i + 1, hi => by
    have h1 := pre_length h6 i (by omega)
    have h2 := h6 i (by omega)
    rw [pre]
    refine Nat.le_trans (length_flatMap_le (c := 7) _ (fun x _ => by simp; omega)) ?_
    rw [Nat.pow_succ]
    exact Nat.mul_le_mul_right 7 h1

set_option maxRecDepth 100000 in
set_option maxHeartbeats 1000000 in
theorem rwhole_any (st : St) (B : Nat) (pA gA : Option Addr) (pc gc : Nat) (W : World) (hs : StRow W B st pA pc gA gc) :
    Calls Try.prog 84 #[stV pA st.n pc gA st.m gc st.lots] W fun e W' => (∃ A c, e = .returned (.slice A st.n c) ∧ IntRow W' W'.heap.size A st.n (fun k => (st.P k).s) ∧ st.n ≤ c) ∧ Below W.heap.size W W' := by
  have HS := Lib.hid hs
  have hB := hs.lt
  have hn := hs.n
  clear hs
  obtain ⟨i0, hi, hz0, hz1, hz2⟩ := info_parts infoInt
  go_enter Try.func84, Try.ntmps84
  go_wp2_with fail
  refine wp_world (fun W1 => W1.cell? ⟨W.heap.size, 0, none⟩ = some (.slice pA st.n pc) ∧ Below W.heap.size W W1 ∧ W.heap.size + 1 ≤ W1.heap.size) ⟨(by (repeat' refine And.intro ?_ ?_) <;> (repeat (first | (with_reducible assumption) | (simp; done) | (with_reducible refine cell_drew_of ?_) | (with_reducible refine cell_drewN_of ?_) | (with_reducible refine cell_below_of (by with_reducible assumption) ?_) | ((with_reducible refine cell_new_of ?_ ?_) <;> (first | (with_reducible rfl) | (simp; done))) | ((with_reducible refine fro_new_of ?_) <;> (first | (with_reducible rfl) | (simp; done))) | (with_reducible refine cell_alloc_of _ ?_) | (with_reducible refine cell_set_of _ (by (first | exact Nat.le_refl _ | omega | (simp; done) | (simp; omega))) ?_) | (with_reducible refine fro_drew_of ?_) | (with_reducible refine fro_drewN_of ?_) | (with_reducible refine fro_below_of (by with_reducible assumption) (by (first | exact Nat.le_refl _ | omega | (simp; done) | (simp; omega))) ?_) | (with_reducible refine fro_alloc_of _ (by (first | exact Nat.le_refl _ | omega | (simp; done) | (simp; omega))) ?_) | (with_reducible refine fro_set_of _ ?_)))), (by repeat (first | (with_reducible exact Below.refl _ _) | (with_reducible refine Below.drew ?_) | (with_reducible refine below_drewN ?_ _) | ((with_reducible refine below_alloc ?_ ?_ _); · (first | exact Nat.le_refl _ | omega | (simp; done) | (simp; omega) | (simp at *; omega))) | ((with_reducible refine below_set ?_ ?_ _); · (first | exact Nat.le_refl _ | omega | (simp; done) | (simp; omega) | (simp at *; omega))) | ((with_reducible refine below_via (by with_reducible assumption) ?_ ?_); · (first | exact Nat.le_refl _ | omega | (simp; done) | (simp; omega) | (simp at *; omega))))), by simp⟩ ?_
  rintro W1 ⟨c0, hb1, hs1⟩
  have HB1 := Lib.hid hb1
  have HA1 := Lib.hid c0
  clear hb1 c0
  go_loopw [3, 4] (fun v i wr => ∃ k : Nat, k ≤ st.n ∧ i = .int .i64 k ∧ Hid (wr.ownsRow W1.heap.size 3 1 v k (numCells (fun j => (st.P j).s) k)) ∧ Hid (Below W1.heap.size W1 wr)) (fun _ i _ => st.n - (intOf i).toNat)
  case atStart => exact ⟨0, by omega, rfl, Lib.hid (World.ownsRow_nil _ _ _ _), Lib.hid (Below.refl _ _)⟩
  case round =>
    obtain ⟨k, hk, rfl, hown, hbw⟩ := hrel
    have hsb := hbw.out.size
    have a0 := cell_same (hbw.out.block W.heap.size (by omega)) HA1.out
    have HBW := Lib.hid (HB1.out.trans (hbw.out.mono (by omega)))
    by_cases hlt : k < st.n
    · obtain ⟨b, o, rfl, hbl, c0, _⟩ := (HS.out.p.below (HBW.out.mono hB)) k hlt
      have hk0 : (0 : Int) ≤ (k : Int) := by omega
      have hkn : (k : Int) < (st.n : Int) := by omega
      have hv1 := hown.out.lt
      go_wp2_with (at_builtin; refine wpList_append_own _ rfl (.tmp 12) (.tmp 19) 26 rfl W1.heap.size 3 i0 (.int .i64 0) 1 8 ints_under hi hz0 hz1 hz2 rfl (by decide) u3 k (numCells (fun j => (st.P j).s) k) rfl (hown.out.alloc _) ⟨wr.heap.size, 0, none⟩ 1 1 [.int .i64 (st.P k).s] rfl rfl ?c1 ?c2 ?c3 ?c4 ?c5 ?_)
      case c1 => exact new_cells (cs := [.int .i64 (st.P k).s])
      case c2 => intro u hu; simp only [List.mem_cons, List.not_mem_nil, or_false] at hu; subst hu; rfl
      case c3 => unfold maxLen; omega
      case c4 => omega
      case c5 => simp; omega
      intro v' w6 hown' hgr _
      have hs6 := hgr.size
      simp only [World.size_alloc] at hs6
      have HB6 : Hid (Below W1.heap.size W1 w6) := Lib.hid ⟨hgr.os.trans hbw.out.os, hgr.tape.trans hbw.out.tape, hgr.output.trans hbw.out.output, by omega, fun i hi => (hgr.block i (by simp; omega) (fun e => by have := (hv1 i e.symm).1; omega)).trans ((Below.heap_alloc _ _ _ (by omega)).trans (hbw.out.block i hi))⟩
      have HOWN6 : Hid (w6.ownsRow W1.heap.size 3 1 v' (k + 1) (numCells (fun j => (st.P j).s) (k + 1))) := Lib.hid (by rw [numCells_succ]; exact hown')
      clear hown' hgr
      go_wp2_with fail
      go_roundw
      case rel => exact ⟨k + 1, by omega, by go_num, HOWN6, HB6⟩
      case measure => simp [intOf]; omega
    · have hk' : k = st.n := by omega
      have hge : ¬ (k : Int) < (st.n : Int) := by omega
      obtain ⟨A, c, rfl, hr, hcl, _⟩ := intOwn_of (show wr.ownsRow W1.heap.size 3 1 u3 st.n (numCells (fun j => (st.P j).s) st.n) by rw [hk'] at hown; exact hown.out)
      have HR := Lib.hid hr
      clear hr hk' hown
      go_wp2_with fail
      go_ret
      exact ⟨⟨A, c, rfl, HR.out, hcl⟩, HBW.out⟩
end Go.Proofs.Ytegmomappbehcaa
