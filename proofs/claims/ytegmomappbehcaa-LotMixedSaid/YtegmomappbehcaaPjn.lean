/- LotMixed: the joined statement. -/
import Derived.Test.YtegmomappbehcaaTe
import Derived.Test.YtegmomappbehcaaWs
import Derived.Laws.AppendOwnNone
import Derived.Test.YtegmomappbehcaaWo
import Derived.Test.YtegmomappbehcaaPjm
import Derived.Deep.CutBlock
import Derived.Test.YtegmomappbehcaaRows
import Derived.Test.YtegmomappbehcaaPo
set_option linter.unusedSimpArgs false
set_option linter.unusedVariables false
namespace Go.Proofs.Ytegmomappbehcaa
open Go.RowKit Go.Shelf

/-- all bags within one of the first i pickings, in lexicographic order -/
def pre (left : Bag) : Nat → List Bag
  | 0 => [bagZ]
  | i + 1 => (pre left i).flatMap fun b => (List.range (left.at i + 1).toNat).map fun n : Nat => b.set i n
theorem pre_exts (left : Bag) : ∀ r, r ≤ 4 → (pre left (4 - r)).flatMap (fun b => exts left r b) = bagsOf left := by
  intro r hr
  obtain ⟨d, hd⟩ : ∃ d, d = 4 - r := ⟨_, rfl⟩
  induction d generalizing r with
  | zero =>
    obtain rfl : r = 4 := by omega
    simp [pre, bagsOf]
  | succ d ih =>
    have h1 := ih (r + 1) (by omega) (by omega)
    rw [← h1, show 4 - r = (4 - (r + 1)) + 1 by omega, pre]
    rw [List.flatMap_assoc]
    congr 1
    funext b
    rw [exts, List.flatMap_map, show 3 - r = 4 - (r + 1) by omega]
theorem pre_all (left : Bag) : pre left 4 = bagsOf left := by
  have := pre_exts left 0 (by omega)
  simp only [Nat.sub_zero, exts] at this
  rw [← this]
  simp
theorem pre_zero {left : Bag} {i : Nat} (h4 : i < 4) (h : left.at i = 0) (hz : ∀ b ∈ pre left i, b.at i = 0) : pre left (i + 1) = pre left i := by
  rw [pre, h]
  have : ∀ b ∈ pre left i, ((List.range ((0 : Int) + 1).toNat).map fun n : Nat => b.set i n) = [b] := fun b hb => by
    show [b.set i ((0 : Nat) : Int)] = [b]
    congr 1
    refine Bag.ext_at (fun k hk => ?_)
    rw [Bag.at_set h4]
    split
    · subst k; rw [hz b hb]; rfl
    · rfl
  clear h hz
  generalize pre left i = L at this ⊢
  induction L with
  | nil => rfl
  | cons x L ih =>
    rw [List.flatMap_cons, this x List.mem_cons_self, ih (fun b hb => this b (List.mem_cons_of_mem _ hb))]
    rfl
theorem pre_mem {left : Bag} : ∀ {i : Nat} {b : Bag}, i ≤ 4 → b ∈ pre left i → (∀ k, k < i → 0 ≤ b.at k ∧ b.at k ≤ left.at k) ∧ ∀ k, i ≤ k → k < 4 → b.at k = 0
  | 0, b, _, h => by
    simp only [pre, List.mem_singleton] at h
    subst h
    refine ⟨fun k hk => absurd hk (by omega), fun k _ hk => ?_⟩
    match k, hk with
    | 0, _ | 1, _ | 2, _ | 3, _ => rfl
  | i + 1, b, hi, h => by
    simp only [pre, List.mem_flatMap, List.mem_map, List.mem_range] at h
    obtain ⟨x, hx, n, hn, rfl⟩ := h
    obtain ⟨h1, h2⟩ := pre_mem (by omega) hx
    refine ⟨fun k hk => ?_, fun k hk hk4 => ?_⟩
    · rw [Bag.at_set (by omega)]
      split
      · subst k; omega
      · exact h1 k (by omega)
    · rw [Bag.at_set (by omega), if_neg (by omega)]
      exact h2 k (by omega) hk4
theorem pre_n {left : Bag} {n : Nat} (hn : n ≤ 4) (h : ∀ k, n ≤ k → k < 4 → left.at k = 0) : pre left n = bagsOf left := by
  rw [← pre_all]
  have key : ∀ d, n + d ≤ 4 → pre left (n + d) = pre left n := by
    intro d
    induction d with
    | zero => intro _; rfl
    | succ d ih =>
      intro hd
      rw [show n + (d + 1) = (n + d) + 1 by omega, pre_zero (by omega) (h _ (by omega) (by omega)) (fun b hb => (pre_mem (by omega) hb).2 _ (Nat.le_refl _) (by omega)), ih (by omega)]
  rw [show 4 = n + (4 - n) by omega, key _ (by omega)]
/-- as far as the bags before the k-th were followed -/
def preK (left : Bag) (i k : Nat) : List Bag := ((pre left i).take k).flatMap fun b => (List.range (left.at i + 1).toNat).map fun n : Nat => b.set i n
theorem preK_zero (left : Bag) (i : Nat) : preK left i 0 = [] := rfl
theorem preK_succ {left : Bag} {i k : Nat} {x : Bag} (h : (pre left i)[k]? = some x) : preK left i (k + 1) = preK left i k ++ (List.range (left.at i + 1).toNat).map fun n : Nat => x.set i n := by
  unfold preK
  have hk : k < (pre left i).length := (List.getElem?_eq_some_iff.1 h).1
  have he : (pre left i)[k] = x := (List.getElem?_eq_some_iff.1 h).2
  rw [List.take_succ_eq_append_getElem hk, List.flatMap_append, he]
  simp
theorem preK_all (left : Bag) (i : Nat) : preK left i (pre left i).length = pre left (i + 1) := by
  unfold preK
  rw [List.take_length]
  rfl
theorem pre_length {left : Bag} (h6 : ∀ k, k < 4 → left.at k ≤ 6) : ∀ i, i ≤ 4 → (pre left i).length ≤ 7 ^ i
  | 0, _ => by simp [pre]
  | i + 1, hi => by
    have h1 := pre_length h6 i (by omega)
    have h2 := h6 i (by omega)
    rw [pre]
    refine Nat.le_trans (length_flatMap_le (c := 7) _ (fun x _ => by simp; omega)) ?_
    rw [Nat.pow_succ]
    exact Nat.mul_le_mul_right 7 h1

set_option maxRecDepth 100000 in
set_option maxHeartbeats 1000000 in
theorem rwhole_any (st : St) (B : Nat) (pA gA : Option Addr) (pc gc : Nat) (W : World) (hs : StRow W B st pA pc gA gc) :
    Calls Try.prog 84 #[stV pA st.n pc gA st.m gc st.lots] W fun e W' => (∃ A c, e = .returned (.slice A st.n c) ∧ IntRow W' W'.heap.size A st.n (fun k => (st.P k).s) ∧ st.n ≤ c) ∧ Below W.heap.size W W' := by
  have HS := Lib.hid hs
  have hB := hs.lt
  have hn := hs.n
  clear hs
  obtain ⟨i0, hi, hz0, hz1, hz2⟩ := info_parts infoInt
  go_enter Try.func84, Try.ntmps84
  go_wp2_with fail
  refine wp_world (fun W1 => W1.cell? ⟨W.heap.size, 0, none⟩ = some (.slice pA st.n pc) ∧ Below W.heap.size W W1 ∧ W.heap.size + 1 ≤ W1.heap.size) ⟨(by (repeat' refine And.intro ?_ ?_) <;> (repeat (first | (with_reducible assumption) | (simp; done) | (with_reducible refine cell_drew_of ?_) | (with_reducible refine cell_drewN_of ?_) | (with_reducible refine cell_below_of (by with_reducible assumption) ?_) | ((with_reducible refine cell_new_of ?_ ?_) <;> (first | (with_reducible rfl) | (simp; done))) | ((with_reducible refine fro_new_of ?_) <;> (first | (with_reducible rfl) | (simp; done))) | (with_reducible refine cell_alloc_of _ ?_) | (with_reducible refine cell_set_of _ (by (first | exact Nat.le_refl _ | omega | (simp; done) | (simp; omega))) ?_) | (with_reducible refine fro_drew_of ?_) | (with_reducible refine fro_drewN_of ?_) | (with_reducible refine fro_below_of (by with_reducible assumption) (by (first | exact Nat.le_refl _ | omega | (simp; done) | (simp; omega))) ?_) | (with_reducible refine fro_alloc_of _ (by (first | exact Nat.le_refl _ | omega | (simp; done) | (simp; omega))) ?_) | (with_reducible refine fro_set_of _ ?_)))), (by repeat (first | (with_reducible exact Below.refl _ _) | (with_reducible refine Below.drew ?_) | (with_reducible refine below_drewN ?_ _) | ((with_reducible refine below_alloc ?_ ?_ _); · (first | exact Nat.le_refl _ | omega | (simp; done) | (simp; omega) | (simp at *; omega))) | ((with_reducible refine below_set ?_ ?_ _); · (first | exact Nat.le_refl _ | omega | (simp; done) | (simp; omega) | (simp at *; omega))) | ((with_reducible refine below_via (by with_reducible assumption) ?_ ?_); · (first | exact Nat.le_refl _ | omega | (simp; done) | (simp; omega) | (simp at *; omega))))), by simp⟩ ?_
  rintro W1 ⟨c0, hb1, hs1⟩
  have HB1 := Lib.hid hb1
  have HA1 := Lib.hid c0
  clear hb1 c0
  go_loopw [3, 4] (fun v i wr => ∃ k : Nat, k ≤ st.n ∧ i = .int .i64 k ∧ Hid (wr.ownsRow W1.heap.size 3 1 v k (numCells (fun j => (st.P j).s) k)) ∧ Hid (Below W1.heap.size W1 wr)) (fun _ i _ => st.n - (intOf i).toNat)
  case atStart => exact ⟨0, by omega, rfl, Lib.hid (World.ownsRow_nil _ _ _ _), Lib.hid (Below.refl _ _)⟩
  case round =>
    obtain ⟨k, hk, rfl, hown, hbw⟩ := hrel
    have hsb := hbw.out.size
    have a0 := cell_same (hbw.out.block W.heap.size (by omega)) HA1.out
    have HBW := Lib.hid (HB1.out.trans (hbw.out.mono (by omega)))
    by_cases hlt : k < st.n
    · obtain ⟨b, o, rfl, hbl, c0, _⟩ := (HS.out.p.below (HBW.out.mono hB)) k hlt
      have hk0 : (0 : Int) ≤ (k : Int) := by omega
      have hkn : (k : Int) < (st.n : Int) := by omega
      have hv1 := hown.out.lt
      go_wp2_with (at_builtin; refine wpList_append_own _ rfl (.tmp 12) (.tmp 19) 26 rfl W1.heap.size 3 i0 (.int .i64 0) 1 8 ints_under hi hz0 hz1 hz2 rfl (by decide) u3 k (numCells (fun j => (st.P j).s) k) rfl (hown.out.alloc _) ⟨wr.heap.size, 0, none⟩ 1 1 [.int .i64 (st.P k).s] rfl rfl ?c1 ?c2 ?c3 ?c4 ?c5 ?_)
      case c1 => exact new_cells (cs := [.int .i64 (st.P k).s])
      case c2 => intro u hu; simp only [List.mem_cons, List.not_mem_nil, or_false] at hu; subst hu; rfl
      case c3 => unfold maxLen; omega
      case c4 => omega
      case c5 => simp; omega
      intro v' w6 hown' hgr _
      have hs6 := hgr.size
      simp only [World.size_alloc] at hs6
      have HB6 : Hid (Below W1.heap.size W1 w6) := Lib.hid ⟨hgr.os.trans hbw.out.os, hgr.tape.trans hbw.out.tape, hgr.output.trans hbw.out.output, by omega, fun i hi => (hgr.block i (by simp; omega) (fun e => by have := (hv1 i e.symm).1; omega)).trans ((Below.heap_alloc _ _ _ (by omega)).trans (hbw.out.block i hi))⟩
      have HOWN6 : Hid (w6.ownsRow W1.heap.size 3 1 v' (k + 1) (numCells (fun j => (st.P j).s) (k + 1))) := Lib.hid (by rw [numCells_succ]; exact hown')
      clear hown' hgr
      go_wp2_with fail
      go_roundw
      case rel => exact ⟨k + 1, by omega, by go_num, HOWN6, HB6⟩
      case measure => simp [intOf]; omega
    · have hk' : k = st.n := by omega
      have hge : ¬ (k : Int) < (st.n : Int) := by omega
      obtain ⟨A, c, rfl, hr, hcl, _⟩ := intOwn_of (show wr.ownsRow W1.heap.size 3 1 u3 st.n (numCells (fun j => (st.P j).s) st.n) by rw [hk'] at hown; exact hown.out)
      have HR := Lib.hid hr
      clear hr hk' hown
      go_wp2_with fail
      go_ret
      exact ⟨⟨A, c, rfl, HR.out, hcl⟩, HBW.out⟩
end Go.Proofs.Ytegmomappbehcaa

set_option linter.unusedSimpArgs false
set_option linter.unusedVariables false
namespace Go.Proofs.Ytegmomappbehcaa
open Go.RowKit Go.Shelf

set_option maxRecDepth 100000 in
/-- append of numbers that came in, nil or not -/
theorem append_ints {w : World} {ops : Array Oper} {rest : List Oper} {o : Oper} {a : Act} {Q : Exit → Act → World → Prop} (hgd : o.guard = none) (s x : Operand)
    (ho : o.op = .call { callee := .builtin .append, args := #[s, x], argTypes := #[26, 26] }) (base : Nat) (v : Value) (n : Nat) (xs : List Value) (hs : a.eval s = v) (hown : w.ownsRow base 3 1 v n xs)
    (A : Option Addr) (m c : Nat) (X : Nat → Int) (hx : a.eval x = .slice A m c) (hA : A = none → m = 0 ∧ c = 0) (hr : IntRow w w.heap.size A m X) (hb : n + m ≤ 1000000) (hbase : base ≤ w.heap.size)
    (h : ∀ v' w', w'.ownsRow base 3 1 v' (n + m) (xs ++ numCells X m) → w.grownBy w' v.ownBlock → wpList Try.prog ops Q rest (a.put o.dst v') w') : wpList Try.prog ops Q (o :: rest) a w := by
  obtain ⟨i0, hi, hz0, hz1, hz2⟩ := info_parts infoInt
  cases A with
  | none =>
    obtain ⟨rfl, rfl⟩ := hA rfl
    exact wpList_append_own_none hgd s x 26 ho base 3 i0 1 ints_under hi v n xs hs hown hx (h v w (by simpa [numCells] using hown) (World.grownBy.refl _ _))
  | some ad =>
    refine wpList_append_own _ hgd s x 26 ho base 3 i0 (.int .i64 0) 1 8 ints_under hi hz0 hz1 hz2 rfl (by decide) v n xs hs hown ad m c (numCells X m) hx (by rw [numCells_len]; omega) (fun j u hj => ?_) (numCells_one _ _) (by unfold maxLen; omega) (by omega) hbase (fun v' w' h1 h2 _ => h v' w' h1 h2)
    have hjn : j < m := by have := (List.getElem?_eq_some_iff.1 hj).1; rwa [numCells_len] at this
    rw [numCells_get _ hjn] at hj
    injection hj with hj
    subst hj
    obtain ⟨b, off, hA, _, hc⟩ := hr j hjn
    injection hA with hA
    subst hA
    rw [Addr.add_lit]
    exact hc

/-- a row of numbers that is one value -/
def RowV (w : World) (B : Nat) (n : Nat) (v : Value) (x : Bag) : Prop := ∃ rA rc, v = .slice rA n rc ∧ n ≤ rc ∧ IntRow w B rA n x.at ∧ (rA = none → n = 0 ∧ rc = 0)
theorem RowV.later {w w' : World} {n : Nat} {v : Value} {x : Bag} (h : RowV w w.heap.size n v x) (hb : Below w.heap.size w w') : RowV w' w'.heap.size n v x := by
  obtain ⟨rA, rc, h1, h2, h3, h4⟩ := h
  exact ⟨rA, rc, h1, h2, h3.later hb, h4⟩
/-- rows of numbers, one for each bag -/
def RowsN (w : World) (B : Nat) (A : Option Addr) (n : Nat) (L : List Bag) : Prop :=
  ∀ k x, L[k]? = some x → ∃ b o v, A = some ⟨b, o, none⟩ ∧ b < B ∧ w.cell? ⟨b, o + k, none⟩ = some v ∧ RowV w B n v x
theorem RowsN.later {w w' : World} {A : Option Addr} {n : Nat} {L : List Bag} (h : RowsN w w.heap.size A n L) (hb : Below w.heap.size w w') : RowsN w' w'.heap.size A n L := fun k x hx => by
  obtain ⟨b, o, v, h1, h2, h3, h4⟩ := h k x hx
  exact ⟨b, o, v, h1, Nat.lt_of_lt_of_le h2 hb.size, (hb.cell (p := ⟨b, _, none⟩) h2).trans h3, h4.later hb⟩
/-- a row of a call's own that lies outside a block -/
def RowOff (w : World) (n : Nat) (v : Value) (x : Bag) (m : Option Nat) : Prop := ∃ g rc, v = .slice (some ⟨g, 0, none⟩) n rc ∧ n ≤ rc ∧ g < w.heap.size ∧ (∀ j, j < n → w.cell? ⟨g, j, none⟩ = some (.int .i64 (x.at j))) ∧ m ≠ some g
theorem RowOff.v {w : World} {n : Nat} {v : Value} {x : Bag} {m : Option Nat} (h : RowOff w n v x m) (hn : 0 < n) : RowV w w.heap.size n v x := by
  obtain ⟨g, rc, h1, h2, h3, h4, _⟩ := h
  exact ⟨_, rc, h1, h2, fun k hk => ⟨g, 0, rfl, h3, by rw [Nat.zero_add]; exact h4 k hk⟩, fun e => by cases e⟩
theorem RowOff.keep {w w' : World} {n : Nat} {v : Value} {x : Bag} {m : Option Nat} (h : RowOff w n v x m) (hs : w.heap.size ≤ w'.heap.size) (hk : ∀ i, i < w.heap.size → m ≠ some i → w'.heap[i]? = w.heap[i]?) :
    ∃ g rc, v = .slice (some ⟨g, 0, none⟩) n rc ∧ n ≤ rc ∧ g < w'.heap.size ∧ (∀ j, j < n → w'.cell? ⟨g, j, none⟩ = some (.int .i64 (x.at j))) := by
  obtain ⟨g, rc, h1, h2, h3, h4, h5⟩ := h
  exact ⟨g, rc, h1, h2, Nat.lt_of_lt_of_le h3 hs, fun j hj => cell_same (hk g h3 h5) (h4 j hj)⟩

set_option maxRecDepth 100000 in
set_option maxHeartbeats 4000000 in
theorem rlots_any (n : Nat) (hn : n ≤ 4) (left : Bag) (h6 : ∀ k, k < 4 → 0 ≤ left.at k ∧ left.at k ≤ 6) (lA : Option Addr) (lc : Nat) (W : World) (hl : IntRow W W.heap.size lA n left.at) :
    Calls Try.prog 83 #[.slice lA n lc] W fun e W' => (∃ A c, e = .returned (.slice A (pre left n).length c) ∧ RowsN W' W'.heap.size A n (pre left n) ∧ (pre left n).length ≤ c) ∧ Below W.heap.size W W' := by
  have HL := Lib.hid hl
  have H6 := Lib.hid h6
  clear hl h6
  obtain ⟨i0, hi, hz0, hz1, hz2⟩ := info_parts infoInt
  obtain ⟨j0, ji, jz0, jz1, jz2⟩ := info_parts infoRow
  go_enter Try.func83, Try.ntmps83
  go_wp2_with fail
  go_loopw [3, 4] (fun v i wr => ∃ (k : Nat) (A : Option Addr) (c : Nat), k ≤ n ∧ i = .int .i64 k ∧ v = .slice A (pre left k).length c ∧ (pre left k).length ≤ c ∧ Hid (RowsN wr wr.heap.size A k (pre left k)) ∧ Hid (Below W.heap.size W wr)) (fun _ i _ => n - (intOf i).toNat)
  case atStart =>
    refine ⟨0, some ⟨W.heap.size, 0, none⟩, 1, by omega, rfl, rfl, Nat.le_refl _, Lib.hid (fun k x hx => ?_), Lib.hid (by repeat (first | (with_reducible exact Below.refl _ _) | (with_reducible refine Below.drew ?_) | (with_reducible refine below_drewN ?_ _) | ((with_reducible refine below_alloc ?_ ?_ _); · (first | exact Nat.le_refl _ | omega | (simp; done) | (simp; omega) | (simp at *; omega))) | ((with_reducible refine below_set ?_ ?_ _); · (first | exact Nat.le_refl _ | omega | (simp; done) | (simp; omega) | (simp at *; omega))) | ((with_reducible refine below_via (by with_reducible assumption) ?_ ?_); · (first | exact Nat.le_refl _ | omega | (simp; done) | (simp; omega) | (simp at *; omega)))))⟩
    have hk : k = 0 := by have := (List.getElem?_eq_some_iff.1 hx).1; simp [pre] at this; exact this
    subst hk
    exact ⟨_, _, _, rfl, by simp, (by (repeat' refine And.intro ?_ ?_) <;> (repeat (first | (with_reducible assumption) | (simp; done) | (with_reducible refine cell_drew_of ?_) | (with_reducible refine cell_drewN_of ?_) | (with_reducible refine cell_below_of (by with_reducible assumption) ?_) | ((with_reducible refine cell_new_of ?_ ?_) <;> (first | (with_reducible rfl) | (simp; done))) | ((with_reducible refine fro_new_of ?_) <;> (first | (with_reducible rfl) | (simp; done))) | (with_reducible refine cell_alloc_of _ ?_) | (with_reducible refine cell_set_of _ (by (first | exact Nat.le_refl _ | omega | (simp; done) | (simp; omega))) ?_) | (with_reducible refine fro_drew_of ?_) | (with_reducible refine fro_drewN_of ?_) | (with_reducible refine fro_below_of (by with_reducible assumption) (by (first | exact Nat.le_refl _ | omega | (simp; done) | (simp; omega))) ?_) | (with_reducible refine fro_alloc_of _ (by (first | exact Nat.le_refl _ | omega | (simp; done) | (simp; omega))) ?_) | (with_reducible refine fro_set_of _ ?_)))), none, 0, rfl, Nat.le_refl _, fun k hk => absurd hk (by omega), fun _ => ⟨rfl, rfl⟩⟩
  case round =>
    obtain ⟨k, A, c, hk, rfl, rfl, hlc, hr, hbw⟩ := hrel
    have hsw := hbw.out.size
    by_cases hlt : k < n
    · have hkn : (k : Int) < (n : Int) := by omega
      obtain ⟨wo, rfl⟩ : ∃ wo, wo = wr := ⟨_, rfl⟩
      have hpl : (pre left k).length ≤ 2401 := Nat.le_trans (pre_length (fun k hk => (H6.out k hk).2) k (by omega)) (Nat.le_trans (Nat.pow_le_pow_right (by omega) (by omega : k ≤ 4)) (by decide))
      go_wp2_with fail
      go_loopw [5, 6] (fun v i wy => ∃ (K : Nat) (vs : List Value), K ≤ (pre left k).length ∧ i = .int .i64 K ∧ vs.length = (preK left k K).length ∧ Hid (wy.ownsRow wo.heap.size 26 1 v (preK left k K).length vs) ∧ Hid (Below wo.heap.size wo wy) ∧
        Hid (∀ (j : Nat) (x : Bag), (preK left k K)[j]? = some x → ∃ u : Value, vs[j]? = some u ∧ RowOff wy (k + 1) u x v.ownBlock)) (fun _ i _ => (pre left k).length - (intOf i).toNat)
      case atStart => exact ⟨0, [], by omega, rfl, rfl, Lib.hid (World.ownsRow_nil _ _ _ _), Lib.hid (Below.refl _ _), Lib.hid (fun j x hx => by simp [preK_zero] at hx)⟩
      case round =>
        obtain ⟨K, vs, hK, rfl, hvl, hown, hby, hrs⟩ := hrel
        have hsy := hby.out.size
        by_cases hltK : K < (pre left k).length
        · obtain ⟨x, hx⟩ : ∃ x, (pre left k)[K]? = some x := ⟨(pre left k)[K], List.getElem?_eq_getElem hltK⟩
          have HX := Lib.hid hx
          have HKS := Lib.hid (preK_succ hx)
          obtain ⟨b, o, v0, rfl, hbl, c0, rA, rc, rfl, hrc, hri, hrn⟩ := hr.out K x hx
          have HRI := Lib.hid hri
          have HC0 := Lib.hid c0
          have HRN := Lib.hid hrn
          have hK0 : (0 : Int) ≤ (K : Int) := by omega
          have hKl : (K : Int) < ((pre left k).length : Int) := by omega
          have hlk := H6.out k (by omega)
          have hp0 : (preK left k K).length ≤ 16807 := by
            have h1 := length_flatMap_le (c := 7) (f := fun b : Bag => (List.range (left.at k + 1).toNat).map fun n : Nat => b.set k n) ((pre left k).take K) (fun x _ => by simp; omega)
            have h2 : ((pre left k).take K).length ≤ 2401 := Nat.le_trans (by rw [List.length_take]; omega) hpl
            show ((((pre left k).take K).flatMap _)).length ≤ _
            omega
          generalize hP0 : preK left k K = P0 at *
          have HLK := Lib.hid hltK
          clear hx hri c0 hrn hltK
          go_wp2_with fail
          go_loopw [5, 7] (fun v i wz => ∃ (N : Nat) (vs : List Value), (N : Int) ≤ left.at k + 1 ∧ i = .int .i64 N ∧ vs.length = P0.length + N ∧ Hid (wz.ownsRow wo.heap.size 26 1 v (P0.length + N) vs) ∧ Hid (Below wo.heap.size wo wz) ∧
            Hid (∀ (j : Nat) (y : Bag), (P0 ++ (List.range N).map fun n : Nat => x.set k n)[j]? = some y → ∃ u : Value, vs[j]? = some u ∧ RowOff wz (k + 1) u y v.ownBlock)) (fun _ i _ => (left.at k + 1 - intOf i).toNat)
          case atStart => exact ⟨0, vs, by omega, rfl, by omega, Lib.hid hown.out, hby, Lib.hid (fun j y hj => hrs.out j y (by simpa using hj))⟩
          case round =>
            clear hown hby hrs hvl hsy
            rename_i wq0
            obtain ⟨N, vs, hN, rfl, hvl, hown, hby, hrs⟩ := hrel
            have hsy := hby.out.size
            obtain ⟨lb, lo, rfl, hlb, l0⟩ := (HL.out.below (hbw.out.trans (hby.out.mono hsw))) k hlt
            have hk0 : (0 : Int) ≤ (k : Int) := by omega
            have c0 := cell_same (hby.out.block b hbl) HC0.out
            by_cases hltN : (N : Int) ≤ left.at k
            · have hv1 := hown.out.lt
              have HRW := Lib.hid (HRI.out.later hby.out)
              go_wp2_with (at_builtin; refine append_ints rfl (.tmp 30) (.tmp 34) rfl wr.heap.size (.slice (some ⟨wr.heap.size, 0, none⟩) 0 0) 0 [] rfl (World.ownsRow_made wr #[] 0 (Nat.le_refl _) (Nat.zero_le _) rfl) rA k rc x.at rfl HRN.out (HRW.out.later (by repeat (first | (with_reducible exact Below.refl _ _) | (with_reducible refine Below.drew ?_) | (with_reducible refine below_drewN ?_ _) | ((with_reducible refine below_alloc ?_ ?_ _); · (first | exact Nat.le_refl _ | omega | (simp; done) | (simp; omega) | (simp at *; omega))) | ((with_reducible refine below_set ?_ ?_ _); · (first | exact Nat.le_refl _ | omega | (simp; done) | (simp; omega) | (simp at *; omega))) | ((with_reducible refine below_via (by with_reducible assumption) ?_ ?_); · (first | exact Nat.le_refl _ | omega | (simp; done) | (simp; omega) | (simp at *; omega)))))) (by omega) (by simp) ?_)
              intro v1 w4 hown1 hgr1
              have hs4 := hgr1.size
              simp only [World.size_alloc] at hs4
              have hold1 : ∀ i, i < wr.heap.size → w4.heap[i]? = wr.heap[i]? := fun i hi => (hgr1.block i (by simp; omega) (by intro e; simp [Value.ownBlock] at e; omega)).trans (Below.heap_alloc _ _ _ hi)
              have HB4 : Hid (Below wr.heap.size wr w4) := Lib.hid ⟨hgr1.os, hgr1.tape, hgr1.output, by omega, hold1⟩
              have HOWN1 := Lib.hid hown1
              have hv2 := hown1.lt
              clear hold1 hgr1 hown1
              go_wp2_with (at_builtin; refine wpList_append_own _ rfl (.tmp 35) (.tmp 37) 26 rfl wr.heap.size 3 i0 (.int .i64 0) 1 8 ints_under hi hz0 hz1 hz2 rfl (by decide) v1 k (numCells x.at k) rfl (HOWN1.out.alloc _) ⟨w4.heap.size, 0, none⟩ 1 1 [.int .i64 N] rfl rfl ?c1 ?c2 ?c3 ?c4 ?c5 ?_)
              case c1 => exact new_cells (cs := [.int .i64 N])
              case c2 => intro u hu; simp only [List.mem_cons, List.not_mem_nil, or_false] at hu; subst hu; rfl
              case c3 => unfold maxLen; omega
              case c4 => omega
              case c5 => simp; omega
              intro v2 w5 hown2 hgr2 _
              have hs5 := hgr2.size
              simp only [World.size_alloc] at hs5
              have HB5 : Hid (Below wr.heap.size wr w5) := Lib.hid ⟨hgr2.os.trans HB4.out.os, hgr2.tape.trans HB4.out.tape, hgr2.output.trans HB4.out.output, by omega, fun i hi => (hgr2.block i (by simp; omega) (fun e => by have := (hv2 i e.symm).1; omega)).trans ((Below.heap_alloc _ _ _ (by omega)).trans (HB4.out.block i hi))⟩
              obtain ⟨rg, rcap, hv2e, hrg, hrow⟩ : ∃ rg rcap, v2 = .slice (some ⟨rg, 0, none⟩) (k + 1) rcap ∧ (wr.heap.size ≤ rg ∧ rg < w5.heap.size ∧ k + 1 ≤ rcap) ∧ ∀ j, j < k + 1 → w5.cell? ⟨rg, j, none⟩ = some (.int .i64 ((x.set k N).at j)) := by
                rcases hown2.2 with ⟨_, h0⟩ | ⟨g, cap, cur, e1, hb1, hg1, hc1, _⟩
                · omega
                · refine ⟨g, cap, e1, ⟨hb1, (Array.getElem?_eq_some_iff.1 hg1).1, hc1⟩, fun j hj => ?_⟩
                  have e2 : (numCells x.at k ++ [Value.int .i64 N])[j]? = some (.int .i64 ((x.set k N).at j)) := by
                    rw [Bag.at_set (by omega)]
                    by_cases e : j = k
                    · subst e
                      rw [if_pos rfl, List.getElem?_append_right (by rw [numCells_len]; omega), numCells_len]
                      simp
                    · rw [if_neg e, List.getElem?_append_left (by rw [numCells_len]; omega), numCells_get _ (by omega)]
                  have h1 := hown2.cells (g := g) (by rw [e1]; rfl) j _ e2
                  rwa [show ((⟨g, 0, none⟩ : Addr).add j) = ⟨g, j, none⟩ by by_cases hj : j = 0 <;> simp [Addr.add, hj]] at h1
              subst hv2e
              have HROW := Lib.hid hrow
              have HOWN5 := Lib.hid (owns_later hown.out HB5.out)
              clear hown2 hgr2 hv2 hrow
              go_wp2_with (at_builtin; refine wpList_append_own _ rfl (.tmp 29) (.tmp 39) 84 rfl wo.heap.size 26 j0 (.slice none 0 0) 1 24 rows_under ji jz0 jz1 jz2 rfl (by decide) u5 (P0.length + N) vs rfl (HOWN5.out.alloc _) ⟨w5.heap.size, 0, none⟩ 1 1 [.slice (some ⟨rg, 0, none⟩) (k + 1) rcap] rfl rfl ?d1 ?d2 ?d3 ?d4 ?d5 ?_)
              case d1 => exact new_cells (cs := [.slice (some ⟨rg, 0, none⟩) (k + 1) rcap])
              case d2 => intro u hu; simp only [List.mem_cons, List.not_mem_nil, or_false] at hu; subst hu; rfl
              case d3 => unfold maxLen; omega
              case d4 => omega
              case d5 => simp; omega
              intro v3 w6 hown3 hgr3 _
              have hs6 := hgr3.size
              simp only [World.size_alloc] at hs6
              have hkw : ∀ i, i < w5.heap.size → u5.ownBlock ≠ some i → w6.heap[i]? = w5.heap[i]? := fun i hi hn => (hgr3.block i (by simp; omega) (fun e => hn e.symm)).trans (Below.heap_alloc _ _ _ hi)
              have HB6 : Hid (Below wo.heap.size wo w6) := Lib.hid ((hby.out.trans (HB5.out.mono hsy)).trans ⟨hgr3.os, hgr3.tape, hgr3.output, by omega, fun i hi => hkw i (by omega) (fun e => by have := (hv1 i e).1; omega)⟩)
              have hvl2 : (vs ++ [Value.slice (some ⟨rg, 0, none⟩) (k + 1) rcap]).length = P0.length + (N + 1) := by rw [List.length_append, hvl]; rfl
              have hold : ∀ (j : Nat) (y : Bag), (P0 ++ (List.range (N + 1)).map fun n : Nat => x.set k n)[j]? = some y → ∃ g rc, (vs ++ [Value.slice (some ⟨rg, 0, none⟩) (k + 1) rcap])[j]? = some (.slice (some ⟨g, 0, none⟩) (k + 1) rc) ∧ k + 1 ≤ rc ∧ g < w6.heap.size ∧ ∀ i, i < k + 1 → w6.cell? ⟨g, i, none⟩ = some (.int .i64 (y.at i)) := fun j y hy => by
                rw [List.range_succ, List.map_append, ← List.append_assoc] at hy
                rcases Nat.lt_or_ge j (P0.length + N) with h | h
                · rw [List.getElem?_append_left (by simp; omega)] at hy
                  obtain ⟨u, hu, hro⟩ := hrs.out j y hy
                  obtain ⟨g, rc, e1, e2, e3, e4⟩ := hro.keep (w' := w5) (show wr.heap.size ≤ w5.heap.size by omega) (fun i hi _ => HB5.out.block i hi)
                  subst e1
                  obtain ⟨_, _, e1', _, e3', _, e5⟩ := hro
                  injection e1' with e1'
                  injection e1' with e1'
                  injection e1' with e1'
                  subst e1'
                  refine ⟨g, rc, by rw [List.getElem?_append_left (by omega)]; exact hu, e2, by omega, fun i hi => cell_same (hkw g e3 e5) (e4 i hi)⟩
                · have hj : j = P0.length + N := by
                    have := (List.getElem?_eq_some_iff.1 hy).1
                    simp at this
                    omega
                  subst hj
                  rw [List.getElem?_append_right (by simp)] at hy
                  simp at hy
                  subst hy
                  refine ⟨rg, rcap, by rw [List.getElem?_append_right (by omega), hvl]; simp, hrg.2.2, by omega, fun i hi => cell_same (hkw rg hrg.2.1 (fun e => by have := (hv1 rg e).2; omega)) (HROW.out i hi)⟩
              have hnew : Hid (∀ (j : Nat) (y : Bag), (P0 ++ (List.range (N + 1)).map fun n : Nat => x.set k n)[j]? = some y → ∃ u : Value, (vs ++ [Value.slice (some ⟨rg, 0, none⟩) (k + 1) rcap])[j]? = some u ∧ RowOff w6 (k + 1) u y v3.ownBlock) := Lib.hid (fun j y hy => by
                obtain ⟨g, rc, e1, e2, e3, e4⟩ := hold j y hy
                refine ⟨_, e1, g, rc, rfl, e2, e3, e4, fun e => ?_⟩
                obtain ⟨y0, hy0⟩ : ∃ y0, (P0 ++ (List.range (N + 1)).map fun n : Nat => x.set k n)[0]? = some y0 := ⟨_, List.getElem?_eq_getElem (by simp; omega)⟩
                obtain ⟨g0, rc0, f1, _⟩ := hold 0 y0 hy0
                have h1 := hown3.cells e 0 _ f1
                simp only [Addr.add] at h1
                have h2 := e4 0 (by omega)
                have h3 : w6.cell? ⟨g, 0, none⟩ = some (.slice (some ⟨g0, 0, none⟩) (k + 1) rc0) := by simpa using h1
                rw [h2] at h3
                injection h3 with h3
                cases h3)
              have HOWN6 : Hid (w6.ownsRow wo.heap.size 26 1 v3 (P0.length + (N + 1)) (vs ++ [Value.slice (some ⟨rg, 0, none⟩) (k + 1) rcap])) := Lib.hid hown3
              clear hown3 hgr3 hkw hold
              have ewN : IntKind.i64.wrap ((N : Int) + 1) = ((N + 1 : Nat) : Int) := by rw [IntWalk.i64_in _ (by omega)]; omega
              go_wp2_with fail
              go_roundw
              case rel => exact ⟨N + 1, _, by omega, rfl, hvl2, HOWN6, HB6, hnew⟩
              case measure => simp [intOf]; omega
            · have hNe : N = (left.at k + 1).toNat := by omega
              have HEQ : Hid (P0 ++ (List.range N).map (fun n : Nat => x.set k n) = preK left k (K + 1)) := Lib.hid (by rw [HKS.out, hNe])
              have HLE : Hid (P0.length + N = (preK left k (K + 1)).length) := Lib.hid (by rw [← HEQ.out]; simp)
              clear c0
              go_wp2_with fail
              go_roundw
              case rel => exact ⟨K + 1, vs, HLK.out, by go_num, by rw [← HLE.out]; exact hvl, Lib.hid (by rw [← HLE.out]; exact hown.out), hby, Lib.hid (by rw [← HEQ.out]; exact hrs.out)⟩
              case measure => have := HLK.out; simp [intOf]; omega
        · have hK' : K = (pre left k).length := by omega
          have hge : ¬ (K : Int) < ((pre left k).length : Int) := by omega
          have HEQ : Hid (preK left k K = pre left (k + 1)) := Lib.hid (by rw [hK', preK_all])
          have hres : Hid (∃ A c, u5 = .slice A (pre left (k + 1)).length c ∧ (pre left (k + 1)).length ≤ c ∧ RowsN wr wr.heap.size A (k + 1) (pre left (k + 1))) := Lib.hid (by
            have hown := hown.out
            have hrs := hrs.out
            rw [HEQ.out] at hown hrs hvl
            rcases hown.2 with ⟨h1, h2⟩ | ⟨g, cap, cur, h1, hb, hg, hc, _⟩
            · refine ⟨none, 0, by rw [h1, h2], by omega, fun j x hj => ?_⟩
              have : j < (pre left (k + 1)).length := (List.getElem?_eq_some_iff.1 hj).1
              omega
            · refine ⟨some ⟨g, 0, none⟩, cap, h1, hc, fun j x hj => ?_⟩
              obtain ⟨u, hu, hro⟩ := hrs j x hj
              refine ⟨g, 0, u, rfl, (Array.getElem?_eq_some_iff.1 hg).1, ?_, hro.v (by omega)⟩
              rw [show (⟨g, 0 + j, none⟩ : Addr) = (⟨g, 0, none⟩ : Addr).add j by by_cases hj : j = 0 <;> simp [Addr.add, hj]]
              exact hown.cells (g := g) (by rw [h1]; rfl) j _ hu)
          obtain ⟨A', c', hu, hlc', hrows⟩ := hres.out
          have HR2 := Lib.hid hrows
          have HBW2 := Lib.hid (hbw.out.trans (hby.out.mono hsw))
          subst hu
          clear hK' hrows
          go_wp2_with fail
          go_roundw
          case rel => exact ⟨k + 1, A', c', by omega, by go_num, rfl, hlc', HR2, HBW2⟩
          case measure => simp [intOf]; omega
    · have hk' : k = n := by omega
      have hge : ¬ (k : Int) < (n : Int) := by omega
      have HR : Hid (RowsN wr wr.heap.size A n (pre left n)) := Lib.hid (by rw [hk'] at hr; exact hr.out)
      have HK := Lib.hid hk'
      clear hk'
      go_wp2_with fail
      go_ret
      exact ⟨⟨A, c, by rw [← HK.out]; rfl, HR.out, by rw [← HK.out]; exact hlc⟩, hbw.out⟩
end Go.Proofs.Ytegmomappbehcaa

set_option linter.unusedSimpArgs false
set_option linter.unusedVariables false
namespace Go.Proofs.Ytegmomappbehcaa
open Go.RowKit Go.Shelf

theorem IntRow.congr {w : World} {B n : Nat} {A : Option Addr} {X Y : Nat → Int} (h : IntRow w B A n X) (e : ∀ k, k < n → X k = Y k) : IntRow w B A n Y := fun k hk => by
  obtain ⟨b, o, h1, h2, h3⟩ := h k hk
  exact ⟨b, o, h1, h2, by rw [← e k hk]; exact h3⟩
theorem all_at_lt {st : St} (h4 : st.n ≤ 4) {k : Nat} (hk : k < st.n) : st.all.at k = (st.P k).s := by rw [st.all_at k (by omega), if_pos hk]
theorem pre_st {st : St} (h4 : st.n ≤ 4) : pre st.all st.n = bagsOf st.all := pre_n h4 (fun k h1 h2 => by rw [st.all_at k h2, if_neg (by omega)])
theorem bagOf_at_in {st : St} (h4 : st.n ≤ 4) {x : Bag} (h : x.in_ st.all) : bagOf x.at st.n = x := by
  refine Bag.ext_at (fun k hk => ?_)
  have h1 := Bag.in_at h k
  rw [st.all_at k hk] at h1
  have h2 : (bagOf x.at st.n).at k = if k < st.n then x.at k else 0 := by
    match k, hk with
    | 0, _ => rfl
    | 1, _ => rfl
    | 2, _ => rfl
    | 3, _ => rfl
  rw [h2]
  split
  · rfl
  · rename_i h3
    rw [if_neg h3] at h1
    omega
/-- what the reference's Most gives -/
def RMostPost (st : St) (grade : Int) (W : World) (e : Ending) (W' : World) : Prop :=
  Below W.heap.size W W' ∧ ((st.mostErr grade = 0 ∧ ∃ A c, e = .returned (.tuple #[.slice A st.n c, .int .i64 0]) ∧ IntRow W' W'.heap.size A st.n (st.most (st.G grade.toNat)).at) ∨
    (st.mostErr grade ≠ 0 ∧ e = .returned (.tuple #[.slice none 0 0, .int .i64 (st.mostErr grade)])))

theorem St.has_pos {st : St} {x : Bag} {g : Gd} (h : st.has x g = true) : 0 < x.size := by
  unfold St.has at h
  simp at h
  exact h.1

set_option maxRecDepth 100000 in
set_option maxHeartbeats 4000000 in
theorem rMost_any (st : St) (B : Nat) (pA gA : Option Addr) (pc gc : Nat) (grade : Int) (W : World) (hs : StRow W B st pA pc gA gc) :
    Calls Try.prog 22 #[stV pA st.n pc gA st.m gc st.lots, .int .i64 grade] W (RMostPost st grade W) := by
  have HS := Lib.hid hs
  have hB := hs.lt
  have hm := hs.m
  clear hs
  go_enter Try.func22, Try.ntmps22
  go_wp2_with fail
  refine (rcheck_any st B pA gA pc gc _ (HS.out.later (by repeat (first | (with_reducible exact Below.refl _ _) | (with_reducible refine Below.drew ?_) | (with_reducible refine below_drewN ?_ _) | ((with_reducible refine below_alloc ?_ ?_ _); · (first | exact Nat.le_refl _ | omega | (simp; done) | (simp; omega) | (simp at *; omega))) | ((with_reducible refine below_set ?_ ?_ _); · (first | exact Nat.le_refl _ | omega | (simp; done) | (simp; omega) | (simp at *; omega))) | ((with_reducible refine below_via (by with_reducible assumption) ?_ ?_); · (first | exact Nat.le_refl _ | omega | (simp; done) | (simp; omega) | (simp at *; omega))))))).mono ?_
  rintro e w1 ⟨rfl, hb1⟩
  have HB1 := Lib.hid (show Below W.heap.size W w1 from (by repeat (first | (with_reducible exact Below.refl _ _) | (with_reducible refine Below.drew ?_) | (with_reducible refine below_drewN ?_ _) | ((with_reducible refine below_alloc ?_ ?_ _); · (first | exact Nat.le_refl _ | omega | (simp; done) | (simp; omega) | (simp at *; omega))) | ((with_reducible refine below_set ?_ ?_ _); · (first | exact Nat.le_refl _ | omega | (simp; done) | (simp; omega) | (simp at *; omega))) | ((with_reducible refine below_via (by with_reducible assumption) ?_ ?_); · (first | exact Nat.le_refl _ | omega | (simp; done) | (simp; omega) | (simp at *; omega))))))
  have hs1 := hb1.size
  simp only [World.size_alloc] at hs1
  have HA := Lib.hid (show w1.cell? ⟨W.heap.size, 0, none⟩ = some (.slice pA st.n pc) ∧ w1.cell? ⟨W.heap.size, 1, none⟩ = some (.slice gA st.m gc) ∧ w1.cell? ⟨W.heap.size, 2, none⟩ = some (.int .i64 st.lots) from ⟨cell_below_of hb1 (by (repeat' refine And.intro ?_ ?_) <;> (repeat (first | (with_reducible assumption) | (simp; done) | (with_reducible refine cell_drew_of ?_) | (with_reducible refine cell_drewN_of ?_) | (with_reducible refine cell_below_of (by with_reducible assumption) ?_) | ((with_reducible refine cell_new_of ?_ ?_) <;> (first | (with_reducible rfl) | (simp; done))) | ((with_reducible refine fro_new_of ?_) <;> (first | (with_reducible rfl) | (simp; done))) | (with_reducible refine cell_alloc_of _ ?_) | (with_reducible refine cell_set_of _ (by (first | exact Nat.le_refl _ | omega | (simp; done) | (simp; omega))) ?_) | (with_reducible refine fro_drew_of ?_) | (with_reducible refine fro_drewN_of ?_) | (with_reducible refine fro_below_of (by with_reducible assumption) (by (first | exact Nat.le_refl _ | omega | (simp; done) | (simp; omega))) ?_) | (with_reducible refine fro_alloc_of _ (by (first | exact Nat.le_refl _ | omega | (simp; done) | (simp; omega))) ?_) | (with_reducible refine fro_set_of _ ?_)))), cell_below_of hb1 (by (repeat' refine And.intro ?_ ?_) <;> (repeat (first | (with_reducible assumption) | (simp; done) | (with_reducible refine cell_drew_of ?_) | (with_reducible refine cell_drewN_of ?_) | (with_reducible refine cell_below_of (by with_reducible assumption) ?_) | ((with_reducible refine cell_new_of ?_ ?_) <;> (first | (with_reducible rfl) | (simp; done))) | ((with_reducible refine fro_new_of ?_) <;> (first | (with_reducible rfl) | (simp; done))) | (with_reducible refine cell_alloc_of _ ?_) | (with_reducible refine cell_set_of _ (by (first | exact Nat.le_refl _ | omega | (simp; done) | (simp; omega))) ?_) | (with_reducible refine fro_drew_of ?_) | (with_reducible refine fro_drewN_of ?_) | (with_reducible refine fro_below_of (by with_reducible assumption) (by (first | exact Nat.le_refl _ | omega | (simp; done) | (simp; omega))) ?_) | (with_reducible refine fro_alloc_of _ (by (first | exact Nat.le_refl _ | omega | (simp; done) | (simp; omega))) ?_) | (with_reducible refine fro_set_of _ ?_)))), cell_below_of hb1 (by (repeat' refine And.intro ?_ ?_) <;> (repeat (first | (with_reducible assumption) | (simp; done) | (with_reducible refine cell_drew_of ?_) | (with_reducible refine cell_drewN_of ?_) | (with_reducible refine cell_below_of (by with_reducible assumption) ?_) | ((with_reducible refine cell_new_of ?_ ?_) <;> (first | (with_reducible rfl) | (simp; done))) | ((with_reducible refine fro_new_of ?_) <;> (first | (with_reducible rfl) | (simp; done))) | (with_reducible refine cell_alloc_of _ ?_) | (with_reducible refine cell_set_of _ (by (first | exact Nat.le_refl _ | omega | (simp; done) | (simp; omega))) ?_) | (with_reducible refine fro_drew_of ?_) | (with_reducible refine fro_drewN_of ?_) | (with_reducible refine fro_below_of (by with_reducible assumption) (by (first | exact Nat.le_refl _ | omega | (simp; done) | (simp; omega))) ?_) | (with_reducible refine fro_alloc_of _ (by (first | exact Nat.le_refl _ | omega | (simp; done) | (simp; omega))) ?_) | (with_reducible refine fro_set_of _ ?_))))⟩)
  clear hb1
  by_cases h0 : st.check = 0
  · have hnb : (st.check != 0) = false := by simpa using h0
    have HO := Lib.hid (St.check_ok.1 h0)
    have H0 := Lib.hid h0
    clear h0
    obtain ⟨a0, a1, a2⟩ := HA.out
    have n1 := HO.out.n1
    have n4 := HO.out.n4
    cases hg : inB grade 0 ((st.m : Int) - 1) with
    | false =>
      have HR : Hid (st.mostErr grade = 2) := Lib.hid (by unfold St.mostErr; rw [if_neg (by simp [H0.out]), if_pos hg])
      have ew : IntKind.i64.wrap ((st.m : Int) - 1) = (st.m : Int) - 1 := IntWalk.i64_in _ (by omega)
      go_wp2_with (go_at_call 82; refine (off_any _ _ _ _).mono ?_; rintro e w' ⟨rfl, rfl⟩)
      go_ret2
      exact ⟨HB1.out, .inr ⟨by rw [HR.out]; decide, by rw [HR.out]; rfl⟩⟩
    | true =>
      have hg2 : 0 ≤ grade ∧ grade ≤ (st.m : Int) - 1 := by simpa [inB] using hg
      obtain ⟨gi, rfl⟩ := Int.eq_ofNat_of_zero_le hg2.1
      have hgm : gi < st.m := by omega
      have hgi0 : (0 : Int) ≤ (gi : Int) := by omega
      have hgim : (gi : Int) < (st.m : Int) := by omega
      have HE : Hid (st.mostErr gi = if st.most (st.G gi) = bagZ then 1 else 0) := Lib.hid (by unfold St.mostErr; rw [if_neg (by simp [H0.out]), if_neg (by rw [hg]; decide), Int.toNat_natCast])
      have HGR := Lib.hid (HO.out.gd gi hgm)
      have ew : IntKind.i64.wrap ((st.m : Int) - 1) = (st.m : Int) - 1 := IntWalk.i64_in _ (by omega)
      go_wp2_with (go_at_call 82; refine (off_any _ _ _ _).mono ?_; rintro e w' ⟨rfl, rfl⟩)
      refine (rwhole_any st B pA gA pc gc _ (HS.out.later (HB1.out.mono hB))).mono ?_
      rintro e w2 ⟨⟨wA, wc, rfl, hwr, hwc⟩, hb2⟩
      have HB2 := Lib.hid (HB1.out.trans (hb2.mono (by omega)))
      have hs2 := hb2.size
      have HWR := Lib.hid (hwr.congr (Y := st.all.at) (fun k hk => (all_at_lt n4 hk).symm))
      have HA2 := Lib.hid (show _ ∧ _ ∧ _ from ⟨cell_same (hb2.block _ (by omega)) a0, cell_same (hb2.block _ (by omega)) a1, cell_same (hb2.block _ (by omega)) a2⟩)
      clear hb2 hwr a0 a1 a2
      go_wp2_with fail
      refine (rlots_any st.n n4 st.all (fun k _ => St.all_bd HO.out k) wA wc _ HWR.out).mono ?_
      rintro e w3 ⟨⟨LA, lcap, rfl, hrows, hlc⟩, hb3⟩
      rw [pre_st n4] at hrows hlc ⊢
      have HB3 := Lib.hid (HB2.out.trans (hb3.mono (by omega)))
      have hs3 := hb3.size
      have HA3 := Lib.hid (show _ ∧ _ ∧ _ from ⟨cell_same (hb3.block _ (by omega)) HA2.out.1, cell_same (hb3.block _ (by omega)) HA2.out.2.1, cell_same (hb3.block _ (by omega)) HA2.out.2.2⟩)
      have HROWS := Lib.hid hrows
      have hLl := bagsOf_length (fun k hk => (St.all_bd HO.out k).2)
      have HIN : Hid (∀ b, b ∈ bagsOf st.all → b.in_ st.all) := Lib.hid (fun b hb => mem_bagsOf.1 hb)
      have HMO : Hid (st.most (st.G gi) = st.mostOf (st.G gi) (bagsOf st.all)) := Lib.hid rfl
      generalize hL : bagsOf st.all = L at *
      clear hb3 hrows hL
      go_wp2_with fail
      go_loopw [8, 9] (fun v i wr => ∃ (k : Nat), k ≤ L.length ∧ i = .int .i64 k ∧ (∃ z : Int, v = .int .i64 z ∧ ((z = -1 ∧ st.mostOf (st.G gi) (L.take k) = bagZ) ∨ ∃ j : Nat, z = j ∧ j < L.length ∧ L[j]? = some (st.mostOf (st.G gi) (L.take k)) ∧ 0 < (st.mostOf (st.G gi) (L.take k)).size)) ∧ Hid (Below w3.heap.size w3 wr)) (fun _ i _ => L.length - (intOf i).toNat)
      case atStart => exact ⟨0, by omega, rfl, ⟨-1, rfl, .inl ⟨rfl, rfl⟩⟩, Lib.hid (Below.refl _ _)⟩
      case round =>
        obtain ⟨k, hk, rfl, ⟨z, rfl, hz⟩, hbw⟩ := hrel
        have hsw := hbw.out.size
        have HBW := Lib.hid (HB3.out.trans (hbw.out.mono (by omega)))
        have hsW := HBW.out.size
        obtain ⟨a0, a1, a2⟩ := HA3.out
        have a0 := cell_same (hbw.out.block _ (by omega)) a0
        have a1 := cell_same (hbw.out.block _ (by omega)) a1
        have a2 := cell_same (hbw.out.block _ (by omega)) a2
        by_cases hlt : k < L.length
        · obtain ⟨x, hx⟩ : ∃ x, L[k]? = some x := ⟨L[k], List.getElem?_eq_getElem hlt⟩
          obtain ⟨lb, lo, v, rfl, hlb, l0, rA, rc, rfl, hrc, hri, _⟩ := HROWS.out k x hx
          have l0 := cell_same (hbw.out.block _ hlb) l0
          obtain ⟨gb, go, rfl, hgb, g0, g1⟩ := (HS.out.g.below (HBW.out.mono hB)) gi hgm
          have hk0 : (0 : Int) ≤ (k : Int) := by omega
          have hkn : (k : Int) < (L.length : Int) := by omega
          have HRI := Lib.hid hri
          have hxi := HIN.out x (List.mem_of_getElem? hx)
          have HXR := Lib.hid (fun k hk => St.in_all hxi k hk (by omega))
          have HXB := Lib.hid (bagOf_at_in n4 hxi)
          have HTK : Hid (st.mostOf (st.G gi) (L.take (k + 1)) = st.mostStep (st.G gi) (st.mostOf (st.G gi) (L.take k)) x) := Lib.hid (by
            rw [List.take_add_one, hx]
            exact St.mostOf_snoc st (st.G gi) (L.take k) x)
          have HX := Lib.hid hx
          obtain ⟨o, ho⟩ : ∃ o, o = st.mostOf (st.G gi) (L.take k) := ⟨_, rfl⟩
          rw [← ho] at hz HTK
          have HOO := Lib.hid ho
          obtain ⟨tk, htk⟩ : ∃ tk, tk = (decide (o.size < x.size) && st.has x (st.G gi)) := ⟨_, rfl⟩
          have HT := Lib.hid htk
          have HZ := Lib.hid hz
          clear hri hx ho htk hxi
          go_upto_region 11 with fail
          go_cut [57] (fun c wx => c = .bool tk ∧ Hid (Below wr.heap.size wr wx))
          case first =>
            cases hh : st.has x (st.G gi) with
            | false =>
              have HTF : Hid (tk = false) := Lib.hid (by rw [HT.out, hh]; simp)
              have hhb : st.has (bagOf x.at st.n) (st.G gi) = false := by rw [HXB.out]; exact hh
              refine region_qbw (by kernel_rfl) (by kernel_rfl) ?_
              have x0 := cell_regrown a0
              have x1 := cell_regrown a1
              have x2 := cell_regrown a2
              have x3 := cell_regrown l0
              have x4 := cell_regrown g0
              have x5 := cell_regrown g1
              clear a0 a1 a2 l0 g0 g1
              repeat (first | go_big_quiet_step (first | (go_at_call 85; exact Calls.regrown_of (rhas_any st HO.out B pA (some ⟨gb, go, none⟩) pc gc rA rc x.at (st.G gi) HGR.out _ (HS.out.later ((HBW.out.trans ((below_regrown _ _ _).mono hsW)).mono hB)) (HRI.out.later (hbw.out.trans ((below_regrown _ _ _).mono hsw))) HXR.out))) | quiet_step (first | (go_at_call 85; exact Calls.regrown_of (rhas_any st HO.out B pA (some ⟨gb, go, none⟩) pc gc rA rc x.at (st.G gi) HGR.out _ (HS.out.later ((HBW.out.trans ((below_regrown _ _ _).mono hsW)).mono hB)) (HRI.out.later (hbw.out.trans ((below_regrown _ _ _).mono hsw))) HXR.out))))
              refine wpQuiet_nil ?_; intro wq hbq
              clear x0 x1 x2 x3 x4 x5
              have HBQ := Lib.hid hbq
              clear hbq
              go_wp2_with fail
              go_meet
              exact ⟨by rw [HTF.out], HBQ⟩
            | true =>
              have hhb : st.has (bagOf x.at st.n) (st.G gi) = true := by rw [HXB.out]; exact hh
              rcases hz with ⟨rfl, hoz⟩ | ⟨j, rfl, hjl, hoj, hopos⟩
              · have HTF : Hid (tk = true) := Lib.hid (by rw [HT.out, hh, hoz]; have := St.has_pos hh; simp; exact this)
                refine region_qbw (by kernel_rfl) (by kernel_rfl) ?_
                have x0 := cell_regrown a0
                have x1 := cell_regrown a1
                have x2 := cell_regrown a2
                have x3 := cell_regrown l0
                have x4 := cell_regrown g0
                have x5 := cell_regrown g1
                clear a0 a1 a2 l0 g0 g1
                repeat (first | go_big_quiet_step (first | (go_at_call 85; exact Calls.regrown_of (rhas_any st HO.out B pA (some ⟨gb, go, none⟩) pc gc rA rc x.at (st.G gi) HGR.out _ (HS.out.later ((HBW.out.trans ((below_regrown _ _ _).mono hsW)).mono hB)) (HRI.out.later (hbw.out.trans ((below_regrown _ _ _).mono hsw))) HXR.out))) | quiet_step (first | (go_at_call 85; exact Calls.regrown_of (rhas_any st HO.out B pA (some ⟨gb, go, none⟩) pc gc rA rc x.at (st.G gi) HGR.out _ (HS.out.later ((HBW.out.trans ((below_regrown _ _ _).mono hsW)).mono hB)) (HRI.out.later (hbw.out.trans ((below_regrown _ _ _).mono hsw))) HXR.out))))
                refine wpQuiet_nil ?_; intro wq hbq
                clear x0 x1 x2 x3 x4 x5
                have HBQ := Lib.hid hbq
                clear hbq
                go_wp2_with fail
                go_meet
                exact ⟨by rw [HTF.out], HBQ⟩
              · have HTF : Hid (tk = decide (o.size < x.size)) := Lib.hid (by rw [HT.out, hh, Bool.and_true])
                obtain ⟨lb', lo', v', hA', _, m0, rA', rc', rfl, hrc', hri', _⟩ := HROWS.out j o hoj
                injection hA' with hA'
                injection hA' with e1 e2
                subst e1 e2
                have m0 := cell_same (hbw.out.block _ hlb) m0
                have HRI2 := Lib.hid hri'
                have hoi := HIN.out o (List.mem_of_getElem? hoj)
                have HXR2 := Lib.hid (fun k hk => St.in_all hoi k hk (by omega))
                have HOB := Lib.hid (bagOf_at_in n4 hoi)
                have hj0 : (0 : Int) ≤ (j : Int) := by omega
                have hjn : (j : Int) < (L.length : Int) := by omega
                have hjm : ¬ (j : Int) < 0 := by omega
                clear hri' hoj hoi
                refine region_qbw (by kernel_rfl) (by kernel_rfl) ?_
                have x0 := cell_regrown a0
                have x1 := cell_regrown a1
                have x2 := cell_regrown a2
                have x3 := cell_regrown l0
                have x4 := cell_regrown g0
                have x5 := cell_regrown g1
                have x6 := cell_regrown m0
                clear a0 a1 a2 l0 g0 g1 m0
                repeat (first | go_big_quiet_step (first | (go_at_call 85; exact Calls.regrown_of (rhas_any st HO.out B pA (some ⟨gb, go, none⟩) pc gc rA rc x.at (st.G gi) HGR.out _ (HS.out.later ((HBW.out.trans ((below_regrown _ _ _).mono hsW)).mono hB)) (HRI.out.later (hbw.out.trans ((below_regrown _ _ _).mono hsw))) HXR.out)) | (go_at_call_of 86 (Value.slice rA st.n rc); exact Calls.regrown_of (rsize_bel st HO.out rA rc x.at _ (HRI.out.later (hbw.out.trans ((below_regrown _ _ _).mono hsw))) HXR.out)) | (go_at_call_of 86 (Value.slice rA' st.n rc'); exact Calls.regrown_of (rsize_bel st HO.out rA' rc' o.at _ (HRI2.out.later (hbw.out.trans ((below_regrown _ _ _).mono hsw))) HXR2.out))) | quiet_step (first | (go_at_call 85; exact Calls.regrown_of (rhas_any st HO.out B pA (some ⟨gb, go, none⟩) pc gc rA rc x.at (st.G gi) HGR.out _ (HS.out.later ((HBW.out.trans ((below_regrown _ _ _).mono hsW)).mono hB)) (HRI.out.later (hbw.out.trans ((below_regrown _ _ _).mono hsw))) HXR.out)) | (go_at_call_of 86 (Value.slice rA st.n rc); exact Calls.regrown_of (rsize_bel st HO.out rA rc x.at _ (HRI.out.later (hbw.out.trans ((below_regrown _ _ _).mono hsw))) HXR.out)) | (go_at_call_of 86 (Value.slice rA' st.n rc'); exact Calls.regrown_of (rsize_bel st HO.out rA' rc' o.at _ (HRI2.out.later (hbw.out.trans ((below_regrown _ _ _).mono hsw))) HXR2.out))))
                refine wpQuiet_nil ?_; intro wq hbq
                clear x0 x1 x2 x3 x4 x5 x6
                rw [HXB.out, HOB.out]
                have HBQ := Lib.hid hbq
                clear hbq
                go_wp2_with fail
                go_meet
                exact ⟨by rw [HTF.out], HBQ⟩
          case rest =>
            obtain ⟨rfl, HBQ⟩ := hcut
            have hbw2 := Lib.hid (hbw.out.trans (HBQ.out.mono hsw))
            have HLT := Lib.hid hlt
            clear a0 a1 a2 l0 g0 g1
            cases tk with
            | true =>
              have HNEW : Hid (st.mostOf (st.G gi) (L.take (k + 1)) = x ∧ 0 < x.size) := Lib.hid (by
                have h := HT.out.symm
                simp only [Bool.and_eq_true] at h
                refine ⟨?_, St.has_pos h.2⟩
                rw [HTK.out]
                unfold St.mostStep
                rw [if_pos (by rw [h.1, h.2]; rfl)])
              go_wp2_with fail
              go_roundw
              case rel => exact ⟨k + 1, HLT.out, by go_num, ⟨_, rfl, .inr ⟨k, rfl, HLT.out, by rw [HNEW.out.1]; exact HX.out, by rw [HNEW.out.1]; exact HNEW.out.2⟩⟩, hbw2⟩
              case measure => have := HLT.out; simp [intOf]; omega
            | false =>
              have HNEW : Hid (st.mostOf (st.G gi) (L.take (k + 1)) = o) := Lib.hid (by
                rw [HTK.out]
                unfold St.mostStep
                rw [if_neg (by rw [← HT.out]; decide)])
              go_wp2_with fail
              go_roundw
              case rel => exact ⟨k + 1, HLT.out, by go_num, ⟨_, rfl, by rw [HNEW.out]; exact HZ.out⟩, hbw2⟩
              case measure => have := HLT.out; simp [intOf]; omega
        · have hk' : k = L.length := by omega
          have hge : ¬ (k : Int) < (L.length : Int) := by omega
          have HMX : Hid (st.mostOf (st.G gi) (L.take k) = st.most (st.G gi)) := Lib.hid (by rw [hk', List.take_length, HMO.out])
          rw [HMX.out] at hz
          rcases hz with ⟨rfl, hoz⟩ | ⟨j, rfl, hjl, hoj, hopos⟩
          · have HR : Hid (st.mostErr gi = 1) := Lib.hid (by rw [HE.out, if_pos hoz])
            clear hoz hk'
            go_wp2_with fail
            go_ret2
            exact ⟨HBW.out, .inr ⟨by rw [HR.out]; decide, by rw [HR.out]; rfl⟩⟩
          · have HR : Hid (st.mostErr gi = 0) := Lib.hid (by
              rw [HE.out, if_neg]
              intro h
              rw [h] at hopos
              exact absurd hopos (by decide))
            obtain ⟨lb', lo', v', rfl, hlb, m0, rA', rc', rfl, hrc', hri', _⟩ := HROWS.out j _ hoj
            have m0 := cell_same (hbw.out.block _ hlb) m0
            have HRI2 := Lib.hid (hri'.later hbw.out)
            have hj0 : (0 : Int) ≤ (j : Int) := by omega
            have hjn : (j : Int) < (L.length : Int) := by omega
            have hjm : ¬ (j : Int) < 0 := by omega
            clear hri' hoj hopos hk'
            go_wp2_with fail
            go_ret2
            exact ⟨HBW.out, .inl ⟨HR.out, rA', rc', rfl, by rw [Int.toNat_natCast]; exact HRI2.out⟩⟩
  · have hnb : (st.check != 0) = true := by simpa using h0
    have HR : Hid (st.mostErr grade = st.check) := Lib.hid (by unfold St.mostErr; rw [if_pos h0])
    have H0 := Lib.hid h0
    clear h0
    go_wp2_with fail
    go_ret2
    exact ⟨HB1.out, .inr ⟨by rw [HR.out]; exact H0.out, by rw [HR.out]; rfl⟩⟩
end Go.Proofs.Ytegmomappbehcaa

set_option linter.unusedSimpArgs false
set_option linter.unusedVariables false
namespace Go.Proofs.Ytegmomappbehcaa
open Go.RowKit Go.Shelf

theorem spare_ok {st : St} (hst : st.ok) {X : Nat → Int} {k p : Nat} (h0 : st.askErr st.n X = 0) (hk : k < st.m) (hp : p < st.n) :
    st.spareR st.n X k p = if st.spareN (bagOf X st.n) p (st.G k) ((st.P p).s - X p).toNat < 0 then (0, 1) else (st.spareN (bagOf X st.n) p (st.G k) ((st.P p).s - X p).toNat, 0) := by
  have h4 := hst.n4
  unfold St.spareR
  rw [if_neg (by simp [h0]), if_neg (by simp [inB]; omega), Int.toNat_natCast, Int.toNat_natCast, st.all_at p (by omega), if_pos hp, bagOf_at hp (by omega)]

set_option maxRecDepth 100000 in
set_option maxHeartbeats 8000000 in
theorem mixed_loop2 (W : World) (B qb : Nat) (st : St) (bx : Nat) (pA gA : Option Addr) (pc gc : Nat) (tA : Option Addr) (tn tc : Nat) (k : Nat) (sz : Int) (hln2 : tn ≤ 9223372036854775807) (HST : Hid st.ok) (hn : 1 ≤ st.n ∧ st.n ≤ 4) (hlt : k < st.m) (hm : 1 ≤ st.m ∧ st.m ≤ 3) (HSZ : Hid ((st.most (st.G k)).size = sz)) {u0 u1 u2 u3 u4 u6 u8 u10 u11 u13 u14 u15 u16 u17 u18 u19 u20 u21 u22 u23 u24 u25 u26 u27 u28 u29 u30 u31 u32 u33 u34 u35 u36 u37 u38 u39 u40 u41 u42 u43 u44 u45 u46 u47 u48 u49 u50 u51 u52 u53 u54 u55 u56 u57 u58 u59 u60 u61 u62 u63 u64 u65 u66 u67 u68 u69 u70 u71 u72 u73 u74 u75 u76 u78 u79 u80 u81 u82 u83 u84 u85 u86 u87 u88 u89 u90 u91 u92 u93 u94 u95 u96 u97 u98 u99 u100 u101 u102 u103 u104 u105 u106 u107 u108 u109 u110 u111 u112 u113 u114 u115 u116 u117 u118 u119 u120 u121 u122 u123 u124 u125 u126 u127 u128 u129 u130 u131 u132 u133 u134 u135 u136 u137 u138 u139 u140 u141 u142 u143 u144 u145 u146 u147 u148 u149 u150 u151 u152 u153 u154 u155 u156 u157 u158 u159 u160 u161 u162 u163 u164 u165 u166 u167 u168 u169 u170 u171 u172 u173 u174 u175 u176 u177 u178 u179 u180 u181 u182 u183 u184 u185 u186 u187 u188 u189 u190 u191 u192 u193 u194 u195 u196 u197 u198 u199 u200 u201 u202 u203 u204 u205 u206 u207 u208 u209 u210 u211 u212 u213 : Value} (w : World) (HRc : Hid (MAt W w B qb st bx pA gA pc gc tA tn tc))
    (Q : Exit → Act → World → Prop) (hK : ∀ {x4 x15 x16 x17 x18 x19 x20 x21 x22 x23 x24 x25 x77 x78 x79 x80 x81 x82 x83 x84 x85 x86 x87 x88 x89 x90 x91 x92 x93 x94 x95 x96 x97 x98 x99 x100 x101 x102 x103 x104 x105 x106 x107 x108 x109 x110 x111 x112 x113 x114 x115 x116 x117 x118 x119 x120 x121 x122 x123 x124 x125 x126 x127 x128 x129 x130 x131 x132 x133 x134 x135 x136 x137 x138 x139 x140 x141 x142 x143 x144 x145 x146 x147 x148 x149 x150 x151 x152 x153 x154 x155 x156 x157 x158 x159 x160 x161 x162 x163 x164 x165 x166 x167 x168 x169 x170 x171 x172 x173 x174 x175 x176 x177 x178 x179 x180 x181 x182 x183 x184 x185 x186 x187 x188 x189 x190 x191 x192 x193 x194 x195 x196 x197 x198 x199 x200 x201 x202 x203 x204 x205 x206 x207 x208 x209 x210 x211 : Value} (w' : World), Hid (MAt W w' B qb st bx pA gA pc gc tA tn tc) → Q .normal ⟨(List.toArray (u0 :: u1 :: u2 :: u3 :: x4 :: (.pointer (some ⟨bx, 0, none⟩)) :: u6 :: (.pointer (some ⟨qb, 0, none⟩)) :: u8 :: (.int .i64 (k : Int)) :: u10 :: u11 :: (.int .i64 sz) :: u13 :: u14 :: x15 :: x16 :: x17 :: x18 :: x19 :: x20 :: x21 :: x22 :: x23 :: x24 :: x25 :: u26 :: u27 :: u28 :: u29 :: u30 :: u31 :: u32 :: u33 :: u34 :: u35 :: u36 :: u37 :: u38 :: u39 :: u40 :: u41 :: u42 :: u43 :: u44 :: u45 :: u46 :: u47 :: u48 :: u49 :: u50 :: u51 :: u52 :: u53 :: u54 :: u55 :: u56 :: u57 :: u58 :: u59 :: u60 :: u61 :: u62 :: u63 :: u64 :: u65 :: u66 :: u67 :: u68 :: u69 :: u70 :: u71 :: u72 :: u73 :: u74 :: u75 :: u76 :: x77 :: x78 :: x79 :: x80 :: x81 :: x82 :: x83 :: x84 :: x85 :: x86 :: x87 :: x88 :: x89 :: x90 :: x91 :: x92 :: x93 :: x94 :: x95 :: x96 :: x97 :: x98 :: x99 :: x100 :: x101 :: x102 :: x103 :: x104 :: x105 :: x106 :: x107 :: x108 :: x109 :: x110 :: x111 :: x112 :: x113 :: x114 :: x115 :: x116 :: x117 :: x118 :: x119 :: x120 :: x121 :: x122 :: x123 :: x124 :: x125 :: x126 :: x127 :: x128 :: x129 :: x130 :: x131 :: x132 :: x133 :: x134 :: x135 :: x136 :: x137 :: x138 :: x139 :: x140 :: x141 :: x142 :: x143 :: x144 :: x145 :: x146 :: x147 :: x148 :: x149 :: x150 :: x151 :: x152 :: x153 :: x154 :: x155 :: x156 :: x157 :: x158 :: x159 :: x160 :: x161 :: x162 :: x163 :: x164 :: x165 :: x166 :: x167 :: x168 :: x169 :: x170 :: x171 :: x172 :: x173 :: x174 :: x175 :: x176 :: x177 :: x178 :: x179 :: x180 :: x181 :: x182 :: x183 :: x184 :: x185 :: x186 :: x187 :: x188 :: x189 :: x190 :: x191 :: x192 :: x193 :: x194 :: x195 :: x196 :: x197 :: x198 :: x199 :: x200 :: x201 :: x202 :: x203 :: x204 :: x205 :: x206 :: x207 :: x208 :: x209 :: x210 :: x211 :: u212 :: u213 :: [])), []⟩ w') :
    Code.wp Try.prog (blkIn Try.f7 2) Q ⟨(List.toArray (u0 :: u1 :: u2 :: u3 :: u4 :: (.pointer (some ⟨bx, 0, none⟩)) :: u6 :: (.pointer (some ⟨qb, 0, none⟩)) :: u8 :: (.int .i64 (k : Int)) :: u10 :: u11 :: (.int .i64 sz) :: u13 :: u14 :: u15 :: u16 :: u17 :: u18 :: u19 :: u20 :: u21 :: u22 :: u23 :: u24 :: u25 :: u26 :: u27 :: u28 :: u29 :: u30 :: u31 :: u32 :: u33 :: u34 :: u35 :: u36 :: u37 :: u38 :: u39 :: u40 :: u41 :: u42 :: u43 :: u44 :: u45 :: u46 :: u47 :: u48 :: u49 :: u50 :: u51 :: u52 :: u53 :: u54 :: u55 :: u56 :: u57 :: u58 :: u59 :: u60 :: u61 :: u62 :: u63 :: u64 :: u65 :: u66 :: u67 :: u68 :: u69 :: u70 :: u71 :: u72 :: u73 :: u74 :: u75 :: u76 :: (.int .i64 0) :: u78 :: u79 :: u80 :: u81 :: u82 :: u83 :: u84 :: u85 :: u86 :: u87 :: u88 :: u89 :: u90 :: u91 :: u92 :: u93 :: u94 :: u95 :: u96 :: u97 :: u98 :: u99 :: u100 :: u101 :: u102 :: u103 :: u104 :: u105 :: u106 :: u107 :: u108 :: u109 :: u110 :: u111 :: u112 :: u113 :: u114 :: u115 :: u116 :: u117 :: u118 :: u119 :: u120 :: u121 :: u122 :: u123 :: u124 :: u125 :: u126 :: u127 :: u128 :: u129 :: u130 :: u131 :: u132 :: u133 :: u134 :: u135 :: u136 :: u137 :: u138 :: u139 :: u140 :: u141 :: u142 :: u143 :: u144 :: u145 :: u146 :: u147 :: u148 :: u149 :: u150 :: u151 :: u152 :: u153 :: u154 :: u155 :: u156 :: u157 :: u158 :: u159 :: u160 :: u161 :: u162 :: u163 :: u164 :: u165 :: u166 :: u167 :: u168 :: u169 :: u170 :: u171 :: u172 :: u173 :: u174 :: u175 :: u176 :: u177 :: u178 :: u179 :: u180 :: u181 :: u182 :: u183 :: u184 :: u185 :: u186 :: u187 :: u188 :: u189 :: u190 :: u191 :: u192 :: u193 :: u194 :: u195 :: u196 :: u197 :: u198 :: u199 :: u200 :: u201 :: u202 :: u203 :: u204 :: u205 :: u206 :: u207 :: u208 :: u209 :: u210 :: u211 :: u212 :: u213 :: [])), []⟩ w := by
  (conv => arg 2; whnf)
  have hn4 : st.n ≤ 4 := hn.2
  go_wp2_with fail
  go_loopw [77] (fun i wr => ∃ j : Nat, j ≤ 4 ∧ i = .int .i64 j ∧ Hid (MAt W wr B qb st bx pA gA pc gc tA tn tc)) (fun i _ => 4 - (intOf i).toNat)
  case atStart => exact ⟨0, by omega, rfl, HRc⟩
  case round =>
    clear HRc
    obtain ⟨j, hj, rfl, HRj⟩ := hrel
    by_cases hjt : j < 4
    · have hj4 : (j : Int) < 4 := by omega
      have ej : IntKind.i64.wrap ((j : Int) + 1) = (j : Int) + 1 := IntWalk.i64_in _ (by omega)
      obtain ⟨wo, rfl⟩ : ∃ wo, wo = wr := ⟨_, rfl⟩
      obtain ⟨s0, s1, s2⟩ := HRj.out.s
      go_wp2_with fail
      refine (madelot_any st W.heap.size _ qb tA tn tc hln2 pA gA pc gc _ HRj.out.r (fun a ha => by
        obtain ⟨b, o, h1, h2, _⟩ := HRj.out.r.p 0 hn.1
        rw [ha] at h1
        injection h1 with h1
        subst h1
        have := HRj.out.hB
        dsimp only
        omega) hn4 (fun i hi => (HST.out.pk i hi).1) HRj.out.b.size HRj.out.hc HRj.out.c).mono ?_
      rintro e wd ⟨lA, lc, Y, rfl, hol, hlc, hy, hg, hch⟩
      have hso := HRj.out.hc
      have HRd : Hid (LAt W wd B qb wo.heap.size st bx pA gA pc gc tA tn tc lA Y) := Lib.hid ⟨HRj.out.keep hg hch, hol, hso⟩
      have HY := Lib.hid hy
      have HAY := Lib.hid (lot_ask HST.out hy)
      clear hol hy hg hch s0 s1 s2 HRj
      obtain ⟨s0, s1, s2⟩ := HRd.out.m.s
      go_wp2_with fail
      refine (Sure_any st _ pA gA pc gc lA st.n lc Y _ HRd.out.m.r HRd.out.l.row (by omega)).mono ?_
      rintro e we ⟨rfl, hb⟩
      have esr : st.sureR st.n Y = (st.sureI (bagOf Y st.n), 0) := by unfold St.sureR; rw [if_neg (by simp [HAY.out])]
      rw [esr]
      have HRe := Lib.hid (HRd.out.later hb)
      have hsf := sure_fits HST.out hlt (x := bagOf Y st.n)
      obtain ⟨sv, hsv⟩ : ∃ sv, st.sureI (bagOf Y st.n) = sv := ⟨_, rfl⟩
      rw [hsv] at hsf ⊢
      have HSF := Lib.hid hsf
      clear hb s0 s1 s2 HRd esr hsv hsf
      go_upto_region 23 with fail
      go_cut [104] from 78 to 211 (fun c wx => c = .bool false ∧ Hid (LAt W wx B qb wo.heap.size st bx pA gA pc gc tA tn tc lA Y))
      case rest =>
        obtain ⟨rfl, HRf⟩ := hcut
        clear HRe HSF
        obtain ⟨s0, s1, s2⟩ := HRf.out.m.s
        go_wp2_with fail
        refine (pull_any W.heap.size qb tA tn tc (st.n : Int) (by omega) hln2 _ HRf.out.m.c).mono ?_
        rintro e wg ⟨x, rfl, hx0, hx1, hg, hc⟩
        obtain ⟨p, rfl⟩ := Int.eq_ofNat_of_zero_le hx0
        have hpn : p < st.n := by omega
        have hpi : (p : Int) < (st.n : Int) := by omega
        have HRg := Lib.hid (HRf.out.keep hg hc)
        clear hx1 hg hc s0 s1 s2 HRf
        obtain ⟨s0, s1, s2⟩ := HRg.out.m.s
        go_wp2_with fail
        refine (Spare_any st _ pA gA pc gc lA st.n lc Y k p _ HRg.out.m.r HRg.out.l.row (by omega)).mono ?_
        rintro e wh ⟨rfl, hb⟩
        rw [spare_ok HST.out HAY.out hlt hpn]
        have HRh := Lib.hid (HRg.out.later hb)
        have HSP := Lib.hid (spare_is (st := st) (x := bagOf Y st.n) (p := p) (g := st.G k) ((st.P p).s - Y p).toNat)
        have hyp := HY.out p hpn
        have hp6 := (HST.out.pk p hpn).1
        obtain ⟨sp, hsp⟩ : ∃ sp, st.spareN (bagOf Y st.n) p (st.G k) ((st.P p).s - Y p).toNat = sp := ⟨_, rfl⟩
        rw [hsp] at HSP ⊢
        obtain ⟨fe, nn, hfn, HFN, hn0, hn1⟩ : ∃ fe nn : Int, (if sp < 0 then ((0 : Int), (1 : Int)) else (sp, 0)) = (nn, fe) ∧ Hid ((fe = 0 ∧ nn = sp ∧ 0 ≤ sp) ∨ (fe = 1 ∧ nn = 0 ∧ sp < 0)) ∧ 0 ≤ nn ∧ nn ≤ (st.P p).s - Y p := by
          have h1 := HSP.out.1
          by_cases h : sp < 0
          · exact ⟨1, 0, by rw [if_pos h], Lib.hid (.inr ⟨rfl, rfl, h⟩), by omega, by omega⟩
          · exact ⟨0, sp, by rw [if_neg h], Lib.hid (.inl ⟨rfl, rfl, by omega⟩), by omega, by omega⟩
        rw [hfn]
        clear hb s0 s1 s2 HRg hsp hfn
        obtain ⟨pb, po, hpA, hpl, _, _, _, _⟩ := HRh.out.m.r.p p hpn
        subst hpA
        obtain ⟨lb, hlA, _⟩ := HRh.out.l p hpn
        subst hlA
        obtain ⟨sx, hsx⟩ : ∃ x, (st.P p).s = x := ⟨_, rfl⟩
        obtain ⟨yx, hyx⟩ : ∃ x, Y p = x := ⟨_, rfl⟩
        rw [hsx] at hp6
        rw [hsx, hyx] at hyp hn1 HSP
        have HSX := Lib.hid hsx
        have HYX := Lib.hid hyx
        clear hsx hyx
        have e1 : IntKind.i64.wrap (sx - yx) = sx - yx := IntWalk.i64_in _ (by omega)
        have e2 : IntKind.i64.wrap (sx - yx + 1) = sx - yx + 1 := IntWalk.i64_in _ (by omega)
        have hn0' : ¬ nn < 0 := by omega
        have hn1' : ¬ sx - yx < nn := by omega
        have hp0 : (0 : Int) ≤ (p : Int) := by omega
        go_upto_region 27 with fail
        go_cut [142] from 78 to 211 (fun c wx => c = .bool false ∧ Hid (LAt W wx B qb wo.heap.size st bx (some ⟨pb, po, none⟩) gA pc gc tA tn tc (some ⟨lb, 0, none⟩) Y))
        case first =>
          obtain ⟨s0, s1, s2⟩ := HRh.out.m.s
          obtain ⟨pb2, po2, hpA, _, p0, _, _, _⟩ := HRh.out.m.r.p p hpn
          obtain ⟨rfl, rfl⟩ : pb = pb2 ∧ po = po2 := by simpa using hpA
          obtain ⟨lb2, hlA, _, l0, _⟩ := HRh.out.l p hpn
          obtain rfl : lb = lb2 := by simpa using hlA
          rw [HSX.out] at p0
          rw [HYX.out] at l0
          clear hpA hlA
          rcases HFN.out with ⟨rfl, rfl, hfz⟩ | ⟨rfl, rfl, hfz⟩
          all_goals
            refine region_qbw (by kernel_rfl) (by kernel_rfl) ?_
            have x0 := cell_regrown s0
            have x1 := cell_regrown p0
            have x2 := cell_regrown l0
            clear s0 s1 s2 p0 l0 hfz
            repeat (first | go_big_quiet_step (fail) | quiet_step (fail))
            refine wpQuiet_nil ?_; intro wq hbq
            clear x0 x1 x2
            have HRq := Lib.hid (HRh.out.later hbq)
            clear hbq
            go_wp2_with fail
            go_meet
            exact ⟨by first | rfl | exact congrArg Value.bool (by simp; omega), HRq⟩
        case rest =>
          obtain ⟨rfl, HRi⟩ := hcut
          clear HRh
          go_upto_region 29 with fail
          obtain ⟨s0, s1, s2⟩ := HRi.out.m.s
          obtain ⟨pb2, po2, hpA, _, p0, _, _, _⟩ := HRi.out.m.r.p p hpn
          obtain ⟨rfl, rfl⟩ : pb = pb2 ∧ po = po2 := by simpa using hpA
          obtain ⟨lb2, hlA, _, l0, _⟩ := HRi.out.l p hpn
          obtain rfl : lb = lb2 := by simpa using hlA
          rw [HSX.out] at p0
          rw [HYX.out] at l0
          clear hpA hlA
          refine region_qbw (by kernel_rfl) (by kernel_rfl) ?_
          have x0 := cell_regrown s0
          have x1 := cell_regrown p0
          have x2 := cell_regrown l0
          clear s0 s1 s2 p0 l0
          repeat (first | go_big_quiet_step (fail) | quiet_step (fail))
          refine wpQuiet_nil ?_; intro wq hbq
          clear x0 x1 x2 e1 e2
          have HRq := Lib.hid (HRi.out.later hbq)
          clear hbq HRi
          go_upto_block 4 with fail
          refine mixed_loop3 W B qb wo.heap.size st bx (some ⟨pb, po, none⟩) gA pc gc tA tn tc lb lc Y k p sp nn fe sx yx HST hn4 hlt hm.2 hpn HY HSX HYX hp6 hyp HSP HFN _ HRq _ (fun w' HR' => ?_)
          clear HRq HST HSP HFN
          go_wp2_with fail
          go_roundw
          case rel => exact ⟨j + 1, by omega, by go_num, Lib.hid HR'.out.m⟩
          case measure => simp [intOf]; omega
      by_cases hv0 : sv < 0
      · go_wp2_with fail
        go_meet
        exact ⟨rfl, HRe⟩
      · by_cases hvk : (k : Int) < sv
        · go_wp2_with fail
          go_meet
          exact ⟨rfl, HRe⟩
        · have hle : Hid (sumN Y st.n ≤ sz) := Lib.hid (by
            rw [bag_sum hn4, ← HSZ.out]
            exact most_is.2 _ (bagOf_in (St.askErr_ok HAY.out).2.1) (HSF.out.1 (by omega)))
          obtain ⟨s0, s1, s2⟩ := HRe.out.m.s
          go_wp2_with fail
          refine (total_any lA st.n lc Y _ HRe.out.l.row (by omega) (fun i hi => by have h1 := HY.out i hi; have h2 := (HST.out.pk i hi).1; omega)).mono ?_
          rintro e wf ⟨rfl, hb⟩
          have HRf := Lib.hid (HRe.out.later hb)
          obtain ⟨ty, hty⟩ : ∃ ty, sumN Y st.n = ty := ⟨_, rfl⟩
          rw [hty] at hle ⊢
          have hle' := hle.out
          clear hb s0 s1 s2 HRe hty
          go_wp2_with fail
          go_meet
          exact ⟨congrArg Value.bool (decide_eq_false (by omega)), HRf⟩
    · obtain rfl : j = 4 := by omega
      have hge : ¬ ((4 : Nat) : Int) < 4 := by omega
      go_wp2_with fail
end Go.Proofs.Ytegmomappbehcaa

set_option linter.unusedSimpArgs false
set_option linter.unusedVariables false
namespace Go.Proofs.Ytegmomappbehcaa
open Go.RowKit Go.Shelf

set_option maxRecDepth 100000 in
set_option maxHeartbeats 8000000 in
theorem mixed_law (nA : Option Addr) (nn nc : Nat) (tA : Option Addr) (tn tc : Nat) (W : World) (hby : ByIn W W.heap.size nA nn) (hln : nn ≤ 9223372036854775807) (hby2 : ByIn W W.heap.size tA tn) (hln2 : tn ≤ 9223372036854775807) :
    Calls Try.prog 7 #[.slice nA nn nc, .slice tA tn tc] W fun e W' => e = .returned (.bool true) ∧ Below W.heap.size W W' := by
  have HBY := Lib.hid hby
  have HBY2 := Lib.hid hby2
  clear hby hby2
  go_enter Try.func7, Try.ntmps7
  go_wp2_with fail
  refine (fill_any W.heap.size nA nn nc _ (Nat.le_refl _) HBY.out).mono ?_
  rintro e w1 ⟨cb, rfl, hcb, hb1, hch⟩
  have HB1 := Lib.hid hb1
  have HC1 := Lib.hid hch
  have hs1 := hb1.size
  have hcl : cb < w1.heap.size := by
    obtain ⟨u, z, _, h⟩ := hch
    exact h.lt
  clear hb1 hch
  go_wp2_with fail
  refine (made_any 4 4 (by omega) (by omega) W.heap.size cb nA nn nc hln _ hs1 hcl HC1.out).mono ?_
  rintro e w2 ⟨st, R, pA, gA, rA, pc, gc, rc, rfl, hn, hm, hl, hgood, ⟨gf, gp, hgd⟩, hop, hog, hor, hpc, hgc, hrc, hg2, hch2⟩
  have hn4 : st.n ≤ 4 := by omega
  have HST := Lib.hid (made_ok ⟨hn.1, hn4⟩ hm hl (by omega) hgood hgd)
  have HB2 := Lib.hid (HB1.out.trans (gb_below hg2 hs1 hcb))
  have hs2 := hg2.size
  have HOP := Lib.hid hop
  have HOG := Lib.hid hog
  clear hgood hgd hop hog hor hch2 hg2 hrc HB1 HC1
  go_wp2_with fail
  have hba : Below w2.heap.size w2 (w2.alloc (.cells #[.slice pA st.n pc, .slice gA st.m gc, .int .i64 st.lots] 25)) := (by repeat (first | (with_reducible exact Below.refl _ _) | (with_reducible refine Below.drew ?_) | (with_reducible refine below_drewN ?_ _) | ((with_reducible refine below_alloc ?_ ?_ _); · (first | exact Nat.le_refl _ | omega | (simp; done) | (simp; omega) | (simp at *; omega))) | ((with_reducible refine below_set ?_ ?_ _); · (first | exact Nat.le_refl _ | omega | (simp; done) | (simp; omega) | (simp at *; omega))) | ((with_reducible refine below_via (by with_reducible assumption) ?_ ?_); · (first | exact Nat.le_refl _ | omega | (simp; done) | (simp; omega) | (simp at *; omega)))))
  have HSA : Hid (StAt (w2.alloc (.cells #[.slice pA st.n pc, .slice gA st.m gc, .int .i64 st.lots] 25)) w2.heap.size pA st.n pc gA st.m gc st.lots) := Lib.hid (by (repeat' refine And.intro ?_ ?_) <;> (repeat (first | (with_reducible assumption) | (simp; done) | (with_reducible refine cell_drew_of ?_) | (with_reducible refine cell_drewN_of ?_) | (with_reducible refine cell_below_of (by with_reducible assumption) ?_) | ((with_reducible refine cell_new_of ?_ ?_) <;> (first | (with_reducible rfl) | (simp; done))) | ((with_reducible refine fro_new_of ?_) <;> (first | (with_reducible rfl) | (simp; done))) | (with_reducible refine cell_alloc_of _ ?_) | (with_reducible refine cell_set_of _ (by (first | exact Nat.le_refl _ | omega | (simp; done) | (simp; omega))) ?_) | (with_reducible refine fro_drew_of ?_) | (with_reducible refine fro_drewN_of ?_) | (with_reducible refine fro_below_of (by with_reducible assumption) (by (first | exact Nat.le_refl _ | omega | (simp; done) | (simp; omega))) ?_) | (with_reducible refine fro_alloc_of _ (by (first | exact Nat.le_refl _ | omega | (simp; done) | (simp; omega))) ?_) | (with_reducible refine fro_set_of _ ?_))))
  have HBA := Lib.hid (HB2.out.trans (hba.mono (by omega)))
  have HRA := Lib.hid (StRow.of_own (HOP.out.later hba) (HOG.out.later hba) (by omega) (by omega) hpc hgc)
  have HBY3 := Lib.hid (ByIn.later HBY2.out HBA.out)
  refine (fill_any W.heap.size tA tn tc _ (by simp; omega) HBY3.out).mono ?_
  rintro e w3 ⟨qb, rfl, hqb, hb3, hch3⟩
  have hs3 := hb3.size
  have hql : qb < w3.heap.size := by
    obtain ⟨u, z, _, h⟩ := hch3
    exact h.lt
  have H3 : Hid (MAt W w3 (w2.heap.size + 1) qb st w2.heap.size pA gA pc gc tA tn tc) := Lib.hid ⟨HSA.out.later hb3, by have := HRA.out.later hb3; simpa using this, hch3, HBA.out.trans (hb3.mono (by simp; omega)), by omega, by simpa using hqb, by omega, hql⟩
  clear hba HSA HBA HRA HBY2 HBY3 HB2 HOP HOG hb3 hch3 HBY
  obtain ⟨s0, s1, s2⟩ := H3.out.s
  go_upto_region 5 with fail
  go_loopw [8, 37] (fun v i wr => ∃ (k : Nat) (pv : Int), k ≤ st.m ∧ v = .int .i64 pv ∧ i = .int .i64 k ∧ Hid (∀ j, k ≤ j → j < st.m → pv ≤ (st.most (st.G j)).size) ∧ Hid (MAt W wr (w2.heap.size + 1) qb st w2.heap.size pA gA pc gc tA tn tc)) (fun _ i _ => st.m - (intOf i).toNat)
  case atStart => exact ⟨0, -1, Nat.zero_le _, rfl, rfl, Lib.hid (fun j _ _ => by have := (most_key (st := st) (g := st.G j) (bagsOf st.all) bagZ).2.1; exact Int.le_trans (by decide) this), H3⟩
  case round =>
    clear H3 s0 s1 s2
    obtain ⟨k, pv, hk, rfl, rfl, HPV, HR⟩ := hrel
    by_cases hlt : k < st.m
    · have hkm : (k : Int) < (st.m : Int) := by omega
      have hk0 : (0 : Int) ≤ (k : Int) := by omega
      have ek : IntKind.i64.wrap ((k : Int) + 1) = (k : Int) + 1 := IntWalk.i64_in _ (by omega)
      have hme : Hid (st.mostErr k = if st.most (st.G k) = bagZ then 1 else 0) := Lib.hid (by unfold St.mostErr; rw [if_neg (by simp [St.check_ok.2 HST.out]), if_neg (by simp [inB]; omega)]; rfl)
      obtain ⟨s0, s1, s2⟩ := HR.out.s
      go_wp2_with fail
      refine (Most_any st _ pA gA pc gc (k : Int) _ HR.out.r).mono ?_
      rintro e wa ⟨hb, hp⟩
      have HRa := Lib.hid (HR.out.later hb)
      have HPK := Lib.hid (HPV.out k (Nat.le_refl _) hlt)
      clear hb s0 s1 s2 HR
      have hp2 : ∃ (A : Option Addr) (n' c' : Nat) (er : Int), e = .returned (.tuple #[.slice A n' c', .int .i64 er]) ∧ ((er = 0 ∧ n' = st.n ∧ st.mostErr k = 0 ∧ IntRow wa wa.heap.size A st.n (st.most (st.G k)).at) ∨ (er = 1 ∧ st.mostErr k ≠ 0)) := by
        rcases hp with ⟨h0, mb, rfl, hmb, hmr⟩ | ⟨h0, rfl⟩
        · rw [Int.toNat_natCast] at hmr
          exact ⟨_, _, _, _, rfl, .inl ⟨rfl, rfl, h0, hmr⟩⟩
        · refine ⟨_, _, _, _, rfl, .inr ⟨?_, h0⟩⟩
          by_cases e : st.most (st.G k) = bagZ
          · rw [hme.out, if_pos e]
          · rw [hme.out, if_neg e] at h0
            exact absurd rfl h0
      clear hp
      obtain ⟨A, n', c', er, rfl, hp⟩ := hp2
      have HP := Lib.hid hp
      clear hp
      go_upto_if 47 with fail
      go_cut [12] (fun s12 wx => s12 = .int .i64 (st.most (st.G k)).size ∧ Hid (MAt W wx (w2.heap.size + 1) qb st w2.heap.size pA gA pc gc tA tn tc))
      case rest =>
        obtain ⟨rfl, HRc⟩ := hcut
        clear HRa HP hme
        have hpk := HPK.out
        obtain ⟨sz, hsz⟩ : ∃ sz, (st.most (st.G k)).size = sz := ⟨_, rfl⟩
        rw [hsz] at hpk ⊢
        have HSZ := Lib.hid hsz
        have hpk' : ¬ sz < pv := by omega
        clear hsz hpk
        have ek2 : IntKind.i64.wrap ((k : Int) + 1) = (k : Int) + 1 := ek
        go_upto_block 2 with fail
        refine mixed_loop2 W (w2.heap.size + 1) qb st w2.heap.size pA gA pc gc tA tn tc k sz hln2 HST ⟨hn.1, hn4⟩ hlt hm HSZ _ HRc _ (fun w' HR' => ?_)
        clear HRc
        go_wp2_with fail
        go_roundw
        case rel => exact ⟨k + 1, sz, by omega, rfl, by go_num, Lib.hid (fun i h1 h2 => by
          obtain ⟨d, rfl⟩ : ∃ d, i = k + d := ⟨i - k, by omega⟩
          rw [← HSZ.out]
          exact most_mono HST.out (foul_le HST.out d h2)), HR'⟩
        case measure => simp [intOf]; omega
      rcases HP.out with ⟨rfl, rfl, h0, hmr⟩ | ⟨rfl, h0⟩
      · have hmz : st.most (st.G k) ≠ bagZ := fun e => by rw [hme.out, if_pos e] at h0; omega
        have HMH := Lib.hid (most_is (st := st) (g := st.G k)).1
        have HMR := Lib.hid hmr
        obtain ⟨s0, s1, s2⟩ := HRa.out.s
        go_wp2_with fail
        refine (Sure_any st _ pA gA pc gc _ st.n _ (st.most (st.G k)).at _ HRa.out.r HMR.out (by omega)).mono ?_
        rintro e wb ⟨rfl, hb⟩
        have eb : bagOf (st.most (st.G k)).at st.n = st.most (st.G k) := bagOf_at_in hn4 (most_in HST.out)
        have hask : st.askErr st.n (st.most (st.G k)).at = 0 := lot_ask HST.out (fun i hi => by have h1 := Bag.in_at (most_in HST.out (g := st.G k)) i; rw [st.all_at i (by omega), if_pos hi] at h1; exact h1)
        have esr : st.sureR st.n (st.most (st.G k)).at = (st.sureI (st.most (st.G k)), 0) := by unfold St.sureR; rw [if_neg (by simp [hask]), eb]
        rw [esr]
        have HRb := Lib.hid (HRa.out.later hb)
        have HMb := Lib.hid (HMR.out.later hb)
        have hhas : st.has (st.most (st.G k)) (st.G k) = true := HMH.out.resolve_left hmz
        have hsf := (sure_fits HST.out hlt).2 hhas
        have hsz1 : 0 < (st.most (st.G k)).size := by unfold St.has at hhas; simp only [Bool.and_eq_true, decide_eq_true_iff] at hhas; exact hhas.1
        have hsum : Hid (sumN (st.most (st.G k)).at st.n = (st.most (st.G k)).size) := Lib.hid (by have := bag_sum (X := (st.most (st.G k)).at) hn4; rw [eb] at this; exact this)
        have hx6 : Hid (∀ i, i < st.n → 0 ≤ (st.most (st.G k)).at i ∧ (st.most (st.G k)).at i ≤ 6) := Lib.hid (fun i hi => by have h1 := Bag.in_at (most_in HST.out (g := st.G k)) i; rw [st.all_at i (by omega), if_pos hi] at h1; have h2 := (HST.out.pk i hi).1; omega)
        obtain ⟨sv, hsv⟩ : ∃ sv, st.sureI (st.most (st.G k)) = sv := ⟨_, rfl⟩
        rw [hsv] at hsf ⊢
        have hs1' : ¬ sv < 0 := by omega
        have hs2' : ¬ (k : Int) < sv := by omega
        clear hb s0 s1 s2 HRa HMR eb hask esr hhas hsv h0
        go_wp2_with fail
        refine (total_any _ st.n _ (st.most (st.G k)).at _ HMb.out (by omega) (fun i hi => by have := hx6.out i hi; omega)).mono ?_
        rintro e wc ⟨rfl, hb⟩
        rw [hsum.out]
        have HRc := Lib.hid (HRb.out.later hb)
        obtain ⟨sz, hsz⟩ : ∃ sz, (st.most (st.G k)).size = sz := ⟨_, rfl⟩
        rw [hsz] at hsz1 ⊢
        have HSZ := Lib.hid hsz
        have hq : (sz == 0) = false := by simp; omega
        clear hb HRb HMb hsz
        go_wp2_with fail
        go_meet
        exact ⟨by rw [HSZ.out], HRc⟩
      · have hmz : st.most (st.G k) = bagZ := Classical.byContradiction (fun e => h0 (by rw [hme.out, if_neg e]))
        clear h0
        go_wp2_with fail
        go_meet
        exact ⟨by rw [hmz]; rfl, HRa⟩
    · obtain rfl : k = st.m := by omega
      have hge : ¬ (st.m : Int) < (st.m : Int) := by omega
      go_wp2_with fail
      refine (awake_any _).mono ?_
      rintro e wc ⟨rfl, hb⟩
      have Hc := Lib.hid (HR.out.b.trans (hb.mono HR.out.b.size))
      clear hb
      go_wp2_with fail
      go_ret
      exact ⟨rfl, Hc.out⟩
end Go.Proofs.Ytegmomappbehcaa

set_option linter.unusedSimpArgs false
set_option linter.unusedVariables false
namespace Go.Proofs.Ytegmomappbehcaa
open Go.ChangeShapes Go.WideShapes Go.ChangeAt Go.RowKit

set_option maxRecDepth 100000 in
set_option maxHeartbeats 1000000 in
theorem mixed_lifted (os : Os) (started : os.Started) (H : Type) (enc : TypeId × Value → H) :
    ReturnsInHanded {} Try.checked os 7 .any (Rows.lotMixedSpec.pre6 enc Try.prog Try.f7 Rows.lotMixedRow.domain false) (Rows.lotMixedSpec.post enc Try.prog Try.f7 false true false false) := by
  refine returnsInHanded_of_change (C := Try.checked) own_knob started (by kernel_rfl) Try.func7
    (ChangeSpec.witness6 (enc := enc) (C := Try.checked) false ⟨#[], #[.slice none 0 0, .slice none 0 0], []⟩ 8 (by kernel_rfl) (by kernel_rfl) (by kernel_rfl) (by kernel_rfl)) ?_
  intro W base args ds gs before hval0 hW hcnd _
  have hval : ∀ (j : Nat) t v, Try.f7.params[j]? = some t → args[j]? = some v → Value.okWide Try.prog W .any base t v := hval0
  have hW' := hW
  obtain ⟨p, q, hA0, hV, rfl, hfz, hnd⟩ := hW
  have hA : DataW.TrodAll enc Try.prog W 0 (fun _ => true) true Try.f7.params.toList args.toList ds p := hA0
  rw [Try.params7] at hA hval
  obtain ⟨v0, v1, d0, d1, p0, p1, rfl, rfl, rfl, h0, h1⟩ := trodAll_two hA
  obtain ⟨rfl, rfl⟩ := trodVars_none hV
  obtain ⟨a0, n0, c0, rfl⟩ := okWide_slice Try.underlying63 (hval 0 63 v0 rfl rfl)
  have h0k := h0
  obtain ⟨f0, g0⟩ := h0
  obtain ⟨A, n, c, hv, hby0, hmx0⟩ := open_bytes (v := .slice a0 n0 c0) g0
  injection hv with hv1 hv2 hv3
  subst hv1 hv2 hv3
  obtain ⟨a1, n1, c1, rfl⟩ := okWide_slice Try.underlying63 (hval 1 63 v1 rfl rfl)
  have h1k := h1
  obtain ⟨f1, g1⟩ := h1
  obtain ⟨A, n, c, hv, hby1, hmx1⟩ := open_bytes (v := .slice a1 n1 c1) g1
  injection hv with hv1 hv2 hv3
  subst hv1 hv2 hv3
  clear hA0 hval0
  simp only [List.append_nil] at hW'
  have hlt0 : ∀ x ∈ p0, x.block < W.heap.size := fun x hx => hW'.lt x (by simp [hx])
  have hlt1 : ∀ x ∈ p1, x.block < W.heap.size := fun x hx => hW'.lt x (by simp [hx])
  refine (mixed_law a0 n0 c0 a1 n1 c1 W hby0 (by unfold maxLen at hmx0; omega) hby1 (by unfold maxLen at hmx1; omega)).mono fun e W' ⟨he, bel⟩ => ?_
  subst he
  exact ⟨_, rfl, _, _, _, [], _, [], hW', trodAll_mk1 (shut_bool Try.underlying4 true),
    trodAll_mk2 (Below.trod laid_out (by kernel_rfl) (of_decide_eq_true (by kernel_rfl)) h0k bel hlt0) (Below.trod laid_out (by kernel_rfl) (of_decide_eq_true (by kernel_rfl)) h1k bel hlt1), rfl, bel.frame _, fun h => by cases h⟩

theorem lot_mixed_holds : Rows.LotMixedSaid :=
  OpenClaim.holds_of_wide 7 Try.f7 rfl rfl rfl rfl rfl rfl rfl ⟨rfl, rfl, rfl, rfl, rfl⟩ rfl rfl rfl rfl rfl (by kernel_rfl) Try.func7 (by kernel_rfl)
    (of_decide_eq_true (by kernel_rfl)) (by unfold Func.isWrapper; first | (rw [if_pos (by decide +kernel)]; kernel_rfl) | (rw [if_neg (by decide +kernel)]; exact ⟨rfl, rfl⟩))
    (fun os started H enc _ => mixed_lifted os started H enc)
#print axioms lot_mixed_holds
end Go.Proofs.Ytegmomappbehcaa
