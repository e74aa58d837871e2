/- belt.rule. -/
import Derived.Test.YtmbkngfcbgbeiaaGreatEf
import Derived.Deep.WholeRow
set_option linter.unusedSimpArgs false
set_option linter.unusedVariables false
namespace Go.Proofs.YtmbkngfcbgbeiaaGreat
open Go.RowKit Go.Shelf

theorem TrRow.atA {w : World} {B n : Nat} {T : Nat → Nat → Int} {a : Addr} (h : TrRow w B (some a) n T) {j : Nat} (hj : j < n * 5) : w.cell? (a.add j) = some (.int .i64 (trCell T j)) := by
  obtain ⟨b, o, hA, _, c0, c1, c2, c3, c4⟩ := h (j / 5) (by omega)
  injection hA with hA
  subst hA
  rw [Addr.add_lit]
  unfold trCell
  have h5 : j % 5 = 0 ∨ j % 5 = 1 ∨ j % 5 = 2 ∨ j % 5 = 3 ∨ j % 5 = 4 := by omega
  rcases h5 with e | e | e | e | e <;> rw [e]
  · rw [show o + j = o + j / 5 * 5 by omega]; exact c0
  · rw [show o + j = o + j / 5 * 5 + 1 by omega]; exact c1
  · rw [show o + j = o + j / 5 * 5 + 2 by omega]; exact c2
  · rw [show o + j = o + j / 5 * 5 + 3 by omega]; exact c3
  · rw [show o + j = o + j / 5 * 5 + 4 by omega]; exact c4

abbrev gh (G : Nat → HndA) : Nat → Hnd := fun k => (G k).h
theorem take_close {h : Hnd} {f : Int} {L H : Nat → Int} {c d : Int} (hf : 0 ≤ f) (hL : rowOk c L) (hH : rowOk d H) {m : Nat} (hm : m ≤ 5) (h0 : m = 5 ∨ (h.take f L H m).1 = 0) : ∀ q, q < 5 → (h.take f L H m).2.1 q = (h.take f L H 5).2.1 q ∧ (h.take f L H m).2.2 q = (h.take f L H 5).2.2 q := by
  rcases h0 with rfl | h0
  · exact fun q _ => ⟨rfl, rfl⟩
  · obtain ⟨_, a⟩ := take_stop hf hL hH h0 (5 - m) (by omega)
    rw [show m + (5 - m) = 5 by omega] at a
    exact fun q hq => ⟨(a q hq).1.symm, (a q hq).2.symm⟩
theorem take_off {h : Hnd} {f : Int} {L H : Nat → Int} {m : Nat} (h0 : h.tk m = false) : h.take f L H (m + 1) = h.take f L H m := by
  have ht : h.take f L H (m + 1) = if h.tk m = false then h.take f L H m else
        ((h.take f L H m).1 - min (h.take f L H m).1 ((h.take f L H m).2.1 m),
         (fun k => if k = m then (h.take f L H m).2.1 m - min (h.take f L H m).1 ((h.take f L H m).2.1 m) else (h.take f L H m).2.1 k),
         (fun k => if k = m then (h.take f L H m).2.2 m + min (h.take f L H m).1 ((h.take f L H m).2.1 m) else (h.take f L H m).2.2 k)) := rfl
  rw [ht, if_pos h0]
theorem take_on {h : Hnd} {f : Int} {L H : Nat → Int} {m : Nat} (h0 : h.tk m ≠ false) : h.take f L H (m + 1) = ((h.take f L H m).1 - min (h.take f L H m).1 ((h.take f L H m).2.1 m),
         (fun k => if k = m then (h.take f L H m).2.1 m - min (h.take f L H m).1 ((h.take f L H m).2.1 m) else (h.take f L H m).2.1 k),
         (fun k => if k = m then (h.take f L H m).2.2 m + min (h.take f L H m).1 ((h.take f L H m).2.1 m) else (h.take f L H m).2.2 k)) := by
  have ht : h.take f L H (m + 1) = if h.tk m = false then h.take f L H m else
        ((h.take f L H m).1 - min (h.take f L H m).1 ((h.take f L H m).2.1 m),
         (fun k => if k = m then (h.take f L H m).2.1 m - min (h.take f L H m).1 ((h.take f L H m).2.1 m) else (h.take f L H m).2.1 k),
         (fun k => if k = m then (h.take f L H m).2.2 m + min (h.take f L H m).1 ((h.take f L H m).2.1 m) else (h.take f L H m).2.2 k)) := rfl
  rw [ht, if_neg h0]
/-- what a hand has taken, at its tray and in its heap -/
abbrev tkAt (G : Nat → HndA) (nh : Nat) (T : Nat → Nat → Int) (t k m : Nat) : Int × (Nat → Int) × (Nat → Int) :=
  (gh G k).take ((gh G k).force t) (handsAt (gh G) t (T t) (heapsAt (gh G) nh T t) k).1 ((handsAt (gh G) t (T t) (heapsAt (gh G) nh T t) k).2 k) m
abbrev ruL (G : Nat → HndA) (nh : Nat) (T L : Nat → Nat → Int) (t k : Nat) : Nat → Nat → Int := fun j q => if j = t then (handsAt (gh G) t (T t) (heapsAt (gh G) nh T t) k).1 q else L j q
abbrev tkL (G : Nat → HndA) (nh : Nat) (T L : Nat → Nat → Int) (t k m : Nat) : Nat → Nat → Int := fun j q => if j = t then (tkAt G nh T t k m).2.1 q else L j q
abbrev tkH (G : Nat → HndA) (nh : Nat) (T : Nat → Nat → Int) (t k m : Nat) : Nat → Nat → Int := fun j q => if j = k then (tkAt G nh T t k m).2.2 q else (handsAt (gh G) t (T t) (heapsAt (gh G) nh T t) k).2 j q
theorem tk_bd {G : Nat → HndA} {nh : Nat} {T : Nat → Nat → Int} {t k m : Nat} (hG : ∀ k, (G k).h.rng) (hT : ∀ k, rowOk 60 (T k)) (ht : t < 8) (hm : m ≤ 5) :
    (0 ≤ (tkAt G nh T t k m).1 ∧ (tkAt G nh T t k m).1 ≤ 40) ∧ ∀ q, q < 5 → (0 ≤ (tkAt G nh T t k m).2.1 q ∧ (tkAt G nh T t k m).2.1 q ≤ 60) ∧ 0 ≤ (tkAt G nh T t k m).2.2 q ∧ (tkAt G nh T t k m).2.2 q ≤ 600 := by
  obtain ⟨b1, b2, _⟩ := handsAt_bd (t := t) (d := 60 * (t : Int)) (G := gh G) hG (hT t) (heapsAt_bd (nh := nh) hG hT t) k
  have hf := (Hnd.fl_bd (hG k) (t + 1)).1
  obtain ⟨c1, c2, c3, _⟩ := Hnd.take_bd (h := gh G k) hf.1 b1 (b2 k) m hm
  refine ⟨⟨c1.1, Int.le_trans c1.2 hf.2⟩, fun q hq => ?_⟩
  have d1 : 0 ≤ (tkAt G nh T t k m).2.1 q ∧ (tkAt G nh T t k m).2.1 q ≤ (handsAt (gh G) t (T t) (heapsAt (gh G) nh T t) k).1 q := c2 q hq
  have d2 : (handsAt (gh G) t (T t) (heapsAt (gh G) nh T t) k).2 k q ≤ (tkAt G nh T t k m).2.2 q ∧ (tkAt G nh T t k m).2.2 q ≤ (handsAt (gh G) t (T t) (heapsAt (gh G) nh T t) k).2 k q + (handsAt (gh G) t (T t) (heapsAt (gh G) nh T t) k).1 q := c3 q hq
  have d3 := b1 q hq
  have d4 := b2 k q hq
  have d5 : 60 * (t : Int) ≤ 420 := by omega
  clear c1 c2 c3 b1 b2 hf hG hT
  generalize (tkAt G nh T t k m).2.1 q = x1 at *
  generalize (tkAt G nh T t k m).2.2 q = x2 at *
  generalize (handsAt (gh G) t (T t) (heapsAt (gh G) nh T t) k).1 q = x3 at *
  generalize (handsAt (gh G) t (T t) (heapsAt (gh G) nh T t) k).2 k q = x4 at *
  omega
theorem tk_close {G : Nat → HndA} {nh : Nat} {T : Nat → Nat → Int} {t k m : Nat} (hG : ∀ k, (G k).h.rng) (hT : ∀ k, rowOk 60 (T k)) (hm : m ≤ 5) (h0 : m = 5 ∨ (tkAt G nh T t k m).1 = 0) :
    ∀ q, q < 5 → (tkAt G nh T t k m).2.1 q = (tkAt G nh T t k 5).2.1 q ∧ (tkAt G nh T t k m).2.2 q = (tkAt G nh T t k 5).2.2 q := by
  obtain ⟨b1, b2, _⟩ := handsAt_bd (t := t) (d := 60 * (t : Int)) (G := gh G) hG (hT t) (heapsAt_bd (nh := nh) hG hT t) k
  exact take_close (Hnd.fl_bd (hG k) (t + 1)).1.1 b1 (b2 k) hm h0
theorem ru_close {w : World} {B db mb n lo lb hk : Nat} {tA : Option Addr} {nt tc : Nat} {T : Nat → Nat → Int} {hA : Option Addr} {nh hc : Nat} {G : Nat → HndA} {oA : Option Addr} {L : Nat → Nat → Int} {t k m : Nat} (h : RuAt w B db mb n lo lb hk tA nt tc T hA nh hc G oA (tkL G nh T L t k m) (tkH G nh T t k m)) (hG : ∀ k, (G k).h.rng) (hT : ∀ k, rowOk 60 (T k)) (hm : m ≤ 5) (h0 : m = 5 ∨ (tkAt G nh T t k m).1 = 0) :
    RuAt w B db mb n lo lb hk tA nt tc T hA nh hc G oA (ruL G nh T L t (k + 1)) (handsAt (gh G) t (T t) (heapsAt (gh G) nh T t) (k + 1)).2 := by
  have hc' := tk_close (nh := nh) (t := t) (k := k) hG hT hm h0
  refine h.congr (fun i j hi hj => ?_) (fun i j hi hj => ?_)
  · show (if i = t then (tkAt G nh T t k m).2.1 j else L i j) = if i = t then (tkAt G nh T t k 5).2.1 j else L i j
    rw [(hc' j hj).1]
  · show (if i = k then (tkAt G nh T t k m).2.2 j else (handsAt (gh G) t (T t) (heapsAt (gh G) nh T t) k).2 i j) = (if i = k then (tkAt G nh T t k 5).2.2 else (handsAt (gh G) t (T t) (heapsAt (gh G) nh T t) k).2 i) j
    by_cases e : i = k
    · rw [if_pos e, if_pos e]
      exact (hc' j hj).2
    · rw [if_neg e, if_neg e]

/-- the worlds behind the two makings -/
theorem ru_start {B db mb n : Nat} {tA : Option Addr} {nt tc : Nat} {T : Nat → Nat → Int} {hA : Option Addr} {nh hc : Nat} {G : Nat → HndA} {oA : Option Addr} {W : World} (hd : DkAt W B db mb n tA nt tc T hA nh hc G) (ho : IntRow W W.heap.size oA nh (fun i => (i : Int))) (hof : ∀ c, oA = some c → 0 < nh → c.block ≠ mb) (hdb : db < W.heap.size) (cur : Array Value) (t t' : TypeId) (hcur : ∀ j, j < nt * 5 → cur[j]? = some (.int .i64 (trCell T j))) {w1 : World} (hg1 : w1.heap[W.heap.size]? = some (.cells cur t (0, 0))) (hg2 : w1.heap[W.heap.size + 1]? = some (.cells (madeCells #[Value.int .i64 0, .int .i64 0, .int .i64 0, .int .i64 0, .int .i64 0] (nh * 5)) t' (0, 0))) (hb : Below W.heap.size W w1) (hs : w1.heap.size = W.heap.size + 2) :
    RuAt w1 B db mb n W.heap.size W.heap.size (W.heap.size + 1) tA nt tc T hA nh hc G oA T (fun _ _ => 0) := by
  have hml : mb < W.heap.size := by
    obtain ⟨g, hf, _⟩ := hd.m
    exact hf.lt
  refine ⟨hd.later hb, own_of_cells hg1 hcur, own_of_cells hg2 (fun j hj => made_zero nh j hj), ho.below hb, by omega, by omega, ⟨hdb, hml, hd.r.lt⟩, hof, by omega⟩

theorem heap_made (w : World) (X : Array Value) (t : TypeId) : (w.alloc (.cells X t)).heap[w.heap.size]? = some (.cells X t (0, 0)) := by
  show (w.heap.push _)[w.heap.size]? = _
  simp
theorem min_five (n : Nat) (T : Nat → Int) : (numCells T (n * 5)).length = Nat.min n n * 5 := by
  rw [numCells_len]
  exact congrArg (· * 5) (Nat.min_self n).symm

theorem two_first (w : World) (X Y : Array Value) (t t' : TypeId) : ((w.alloc (.cells X t)).alloc (.cells Y t')).heap[w.heap.size]? = some (.cells X t (0, 0)) := by
  show ((w.heap.push _).push _)[w.heap.size]? = _
  rw [Array.getElem?_push, Array.size_push, if_neg (by omega)]
  simp
theorem two_second (w : World) (X Y : Array Value) (t t' : TypeId) : ((w.alloc (.cells X t)).alloc (.cells Y t')).heap[w.heap.size + 1]? = some (.cells Y t' (0, 0)) := by
  show ((w.heap.push _).push _)[w.heap.size + 1]? = _
  rw [Array.getElem?_push, Array.size_push, if_pos rfl]
theorem gb_put {W wr : World} {c : Option Nat} (h : W.grownBy wr c) (x y : Nat) (u v : Value) : W.grownBy ((wr.setCell ⟨W.heap.size, x, none⟩ u).setCell ⟨W.heap.size + 1, y, none⟩ v) c := by
  refine ⟨h.os, h.tape, h.output, ?_, fun i hi hne => ?_⟩
  · have := h.size
    simpa using this
  · rw [set_heap _ (show i ≠ W.heap.size + 1 by omega), set_heap _ (show i ≠ W.heap.size by omega)]
    exact h.block i hi hne
theorem gb_from_below {w w' : World} {c : Option Nat} (h : Below w.heap.size w w') : w.grownBy w' c := ⟨h.os, h.tape, h.output, h.size, fun i hi _ => h.block i hi⟩

set_option maxRecDepth 100000 in
set_option maxHeartbeats 4000000 in
theorem rule_any (nt nh : Nat) (T : Nat → Nat → Int) (G : Nat → HndA) (hok : BeltOk nt nh T G) (B db mb n : Nat) (hn : n + nt * nh ≤ 1000) (tA hA oA : Option Addr) (tc hc oc : Nat) (W : World) (hd : DkAt W B db mb n tA nt tc T hA nh hc G) (ho : IntRow W W.heap.size oA nh (fun i => (i : Int))) (hof : ∀ c, oA = some c → 0 < nh → c.block ≠ mb) :
    Calls Tryz.prog 32 #[.pointer (some ⟨db, 0, none⟩), .slice oA nh oc] W fun e W' => ∃ L, e = .returned (.tuple #[.slice (some ⟨W.heap.size, 0, none⟩) nt nt, .slice (some ⟨W.heap.size + 1, 0, none⟩) nh nh]) ∧ W.grownBy W' (some mb) ∧ RuAt W' B db mb (n + nt * nh) W.heap.size W.heap.size (W.heap.size + 1) tA nt tc T hA nh hc G oA L (heapsAt (gh G) nh T nt) := by
  have HD := Lib.hid hd
  have HI := Lib.hid ho
  have HF := Lib.hid hof
  have HO := Lib.hid hok
  have h1 := hok.t1
  have h5 := hok.h5
  have h8 := hok.t8
  have hdb := World.block_lt_of_cell? W _ hd.c0
  have hc0 := hd.c0
  have hc1 := hd.c1
  obtain ⟨tb, tof, rfl, htb, -⟩ := hd.r.t 0 (by omega)
  have HT := Lib.hid hd.r.t
  have hBl := hd.r.lt
  have hmk := mkTr nt (by omega)
  have hmk' := mkTr nh (by omega)
  clear hd ho hof hok
  go_enter Tryz.func32, Tryz.ntmps32
  have hsl : ∀ X : Array Value, (W.alloc (.cells X 60)).heap.size = W.heap.size + 1 := fun X => by simp
  have hsz : (madeCells #[Value.int .i64 0, .int .i64 0, .int .i64 0, .int .i64 0, .int .i64 0] (nt * 5)).size = nt * 5 := size_madeCells _ _
  have hsrc : ∀ j v, (numCells (trCell T) (nt * 5))[j]? = some v → (W.alloc (.cells (madeCells #[Value.int .i64 0, .int .i64 0, .int .i64 0, .int .i64 0, .int .i64 0] (nt * 5)) 60)).cell? ((⟨tb, tof, none⟩ : Addr).add j) = some v := by
    intro j v hv
    have hj : j < nt * 5 := Decidable.byContradiction (fun h => by
      rw [List.getElem?_eq_none (by rw [numCells_len]; omega)] at hv
      cases hv)
    rw [numCells_get (trCell T) hj] at hv
    injection hv with hv
    subst hv
    exact (HT.out.below (show Below B W (W.alloc _) from (by repeat (first | (with_reducible exact Below.refl _ _) | (with_reducible assumption) | (with_reducible refine Below.drew ?_) | ((with_reducible refine below_alloc ?_ ?_ _); (· (first | exact Nat.le_refl _ | omega | (dsimp only; omega) | (simp only [World.size_alloc, World.size_drew, World.heap_drewN]; omega) | (simp; omega)))) | ((with_reducible refine below_set ?_ ?_ _); (· (first | exact Nat.le_refl _ | omega | (dsimp only; omega) | (simp only [World.size_alloc, World.size_drew, World.heap_drewN]; omega) | (simp; omega)))) | ((with_reducible refine below_via (by with_reducible assumption) ?_ ?_); (· (first | exact Nat.le_refl _ | omega | (dsimp only; omega) | (simp only [World.size_alloc, World.size_drew, World.heap_drewN]; omega) | (simp; omega)))))))).atA hj
  have hcp := run_copy_sized (P := Tryz.prog) (W.alloc (.cells (madeCells #[Value.int .i64 0, .int .i64 0, .int .i64 0, .int .i64 0, .int .i64 0] (nt * 5)) 60)) 23 23 3 60 5 W.heap.size 0 nt nt ⟨tb, tof, none⟩ nt tc _ 60 (numCells (trCell T) (nt * 5)) trays_under (by kernel_rfl) (heap_made _ _ _) (min_five nt _) hsrc (by rw [numCells_len, hsz]; omega) (numCells_one _ _)
  have eD : ∀ j, j < nt * 5 → (List.take 0 (madeCells #[Value.int .i64 0, .int .i64 0, .int .i64 0, .int .i64 0, .int .i64 0] (nt * 5)).toList ++ numCells (trCell T) (nt * 5) ++ List.drop (0 + (numCells (trCell T) (nt * 5)).length) (madeCells #[Value.int .i64 0, .int .i64 0, .int .i64 0, .int .i64 0, .int .i64 0] (nt * 5)).toList).toArray[j]? = some (.int .i64 (trCell T j)) := by
    intro j hj
    rw [List.getElem?_toArray, List.take_zero, List.nil_append, List.getElem?_append_left (by rw [numCells_len]; exact hj)]
    exact numCells_get _ hj
  have ED := Lib.hid eD
  clear eD hsrc hsz
  generalize (List.take 0 (madeCells #[Value.int .i64 0, .int .i64 0, .int .i64 0, .int .i64 0, .int .i64 0] (nt * 5)).toList ++ numCells (trCell T) (nt * 5) ++ List.drop (0 + (numCells (trCell T) (nt * 5)).length) (madeCells #[Value.int .i64 0, .int .i64 0, .int .i64 0, .int .i64 0, .int .i64 0] (nt * 5)).toList).toArray = Z at hcp ED
  rw [World.setRow_alloc_new] at hcp
  go_upto_region 4 with fail
  refine wp_name (fun w1 => RuAt w1 B db mb n W.heap.size W.heap.size (W.heap.size + 1) (some ⟨tb, tof, none⟩) nt tc T hA nh hc G oA T (fun _ _ => 0) ∧ W.grownBy w1 (some mb)) ⟨ru_start HD.out HI.out HF.out hdb Z 60 60 ED.out (two_first _ _ _ _ _) (two_second _ _ _ _ _) (by repeat (first | (with_reducible exact Below.refl _ _) | (with_reducible assumption) | (with_reducible refine Below.drew ?_) | ((with_reducible refine below_alloc ?_ ?_ _); (· (first | exact Nat.le_refl _ | omega | (dsimp only; omega) | (simp only [World.size_alloc, World.size_drew, World.heap_drewN]; omega) | (simp; omega)))) | ((with_reducible refine below_set ?_ ?_ _); (· (first | exact Nat.le_refl _ | omega | (dsimp only; omega) | (simp only [World.size_alloc, World.size_drew, World.heap_drewN]; omega) | (simp; omega)))) | ((with_reducible refine below_via (by with_reducible assumption) ?_ ?_); (· (first | exact Nat.le_refl _ | omega | (dsimp only; omega) | (simp only [World.size_alloc, World.size_drew, World.heap_drewN]; omega) | (simp; omega)))))) (by simp), gb_from_below (by repeat (first | (with_reducible exact Below.refl _ _) | (with_reducible assumption) | (with_reducible refine Below.drew ?_) | ((with_reducible refine below_alloc ?_ ?_ _); (· (first | exact Nat.le_refl _ | omega | (dsimp only; omega) | (simp only [World.size_alloc, World.size_drew, World.heap_drewN]; omega) | (simp; omega)))) | ((with_reducible refine below_set ?_ ?_ _); (· (first | exact Nat.le_refl _ | omega | (dsimp only; omega) | (simp only [World.size_alloc, World.size_drew, World.heap_drewN]; omega) | (simp; omega)))) | ((with_reducible refine below_via (by with_reducible assumption) ?_ ?_); (· (first | exact Nat.le_refl _ | omega | (dsimp only; omega) | (simp only [World.size_alloc, World.size_drew, World.heap_drewN]; omega) | (simp; omega))))))⟩ ?_
  rintro w1 ⟨hr1, hg1⟩
  have HR1 := Lib.hid hr1
  have HG1 := Lib.hid hg1
  have hmb : mb < W.heap.size := hr1.b.2.1
  clear hr1 hg1 hmk hmk' hcp hc0 hc1 ED HT HD HI HF Z htb hBl
  have HB : Hid (∀ k, (G k).h.rng) := Lib.hid HO.out.h
  have HTT : Hid (∀ k, rowOk 60 (T k)) := Lib.hid HO.out.t
  go_wp2_with fail
  go_loopw [37] (fun i wr => ∃ (t : Nat) (L : Nat → Nat → Int), t ≤ nt ∧ i = .int .i64 t ∧ (∀ k, t ≤ k → ∀ m, m < 5 → L k m = T k m) ∧ Hid (RuAt wr B db mb (n + t * nh) W.heap.size W.heap.size (W.heap.size + 1) (some ⟨tb, tof, none⟩) nt tc T hA nh hc G oA L (heapsAt (gh G) nh T t)) ∧ Hid (W.grownBy wr (some mb))) (fun i _ => nt - (intOf i).toNat)
  case atStart => exact ⟨0, T, Nat.zero_le _, rfl, fun _ _ _ _ => rfl, by rw [Nat.zero_mul]; exact HR1, HG1⟩
  case round =>
    clear HR1 HG1
    obtain ⟨t, L, ht, rfl, hLT, HR, HG⟩ := hrel
    by_cases hlt : t < nt
    · have hti : (t : Int) < (nt : Int) := by omega
      have et : IntKind.i64.wrap ((t : Int) + 1) = (t : Int) + 1 := IntWalk.i64_in _ (by omega)
      have hmu : t * nh + nh ≤ nt * nh := by
        have := Nat.mul_le_mul_right nh (show t + 1 ≤ nt from hlt)
        rw [Nat.succ_mul] at this
        exact this
      go_wp2_with fail
      go_loopw [42] (fun i wr2 => ∃ k : Nat, k ≤ nh ∧ i = .int .i64 k ∧ Hid (RuAt wr2 B db mb (n + t * nh + k) W.heap.size W.heap.size (W.heap.size + 1) (some ⟨tb, tof, none⟩) nt tc T hA nh hc G oA (ruL G nh T L t k) (handsAt (gh G) t (T t) (heapsAt (gh G) nh T t) k).2) ∧ Hid (W.grownBy wr2 (some mb))) (fun i _ => nh - (intOf i).toNat)
      case atStart => exact ⟨0, Nat.zero_le _, rfl, Lib.hid (HR.out.congr (fun i j hi hj => by
          show L i j = if i = t then T t j else L i j
          split
          · rename_i e
            rw [e]
            exact hLT t (Nat.le_refl _) j hj
          · rfl) (fun _ _ _ _ => rfl)), HG⟩
      case round =>
        clear HR HG
        obtain ⟨k, hk, rfl, HR2, HG2⟩ := hrel
        by_cases hkl : k < nh
        · have hki : (k : Int) < (nh : Int) := by omega
          have ek : IntKind.i64.wrap ((k : Int) + 1) = (k : Int) + 1 := IntWalk.i64_in _ (by omega)
          obtain ⟨ob, oo, rfl, hob, hoc⟩ := HR2.out.o k hkl
          go_wp2_with fail
          go_step3
          go_wp2_with fail
          refine (force_any nt nh T G HO.out B db mb (n + t * nh + k) (by omega) (some ⟨tb, tof, none⟩) hA tc hc k t hkl hlt _ HR2.out.d).mono ?_
          rintro e w3 ⟨rfl, hg3, hd3⟩
          have HR3 := Lib.hid (HR2.out.gr hg3 hd3)
          have HG3 := Lib.hid (gb_trans HG2.out hg3)
          clear hg3 hd3 HR2 HG2 hob hoc
          go_wp2_with fail
          go_step3
          go_wp2_with fail
          go_loopw [11, 50] (fun f i wr3 => ∃ (m : Nat) (F : Int), m ≤ 5 ∧ Hid (F = (tkAt G nh T t k m).1) ∧ f = .int .i64 F ∧ i = .int .i64 m ∧ Hid (RuAt wr3 B db mb (n + t * nh + k + 1) W.heap.size W.heap.size (W.heap.size + 1) (some ⟨tb, tof, none⟩) nt tc T hA nh hc G (some ⟨ob, oo, none⟩) (tkL G nh T L t k m) (tkH G nh T t k m)) ∧ Hid (W.grownBy wr3 (some mb))) (fun _ i _ => 5 - (intOf i).toNat)
          case atStart => exact ⟨0, _, Nat.zero_le _, Lib.hid rfl, rfl, rfl, Lib.hid (HR3.out.congr (fun _ _ _ _ => rfl) (fun i j _ _ => by
              show (handsAt (gh G) t (T t) (heapsAt (gh G) nh T t) k).2 i j = if i = k then (handsAt (gh G) t (T t) (heapsAt (gh G) nh T t) k).2 k j else (handsAt (gh G) t (T t) (heapsAt (gh G) nh T t) k).2 i j
              split
              · rename_i e
                rw [e]
              · rfl)), HG3⟩
          case round =>
            clear HR3 HG3
            obtain ⟨m, F, hm, HFX, rfl, rfl, HR4, HG4⟩ := hrel
            obtain ⟨hf2, hq⟩ := tk_bd (nh := nh) (t := t) (k := k) (m := m) HB.out HTT.out (by omega) hm
            by_cases hm5 : m < 5
            · have hmi : (m : Int) < 5 := by omega
              have em : IntKind.i64.wrap ((m : Int) + 1) = (m : Int) + 1 := IntWalk.i64_in _ (by omega)
              by_cases h0 : F = 0
              · have HC := Lib.hid (ru_close HR4.out HB.out HTT.out hm (.inr (by rw [← HFX.out]; exact h0)))
                clear HFX
                subst h0
                go_wp2_with fail
                rw [show ∀ (Q : Exit → Act → World → Prop) (a : Act) (w : World), Exit.noGoto Q .normal a w = Q .normal a w from fun _ _ _ => rfl]
                go_wp2_with fail
                refine ⟨?_, ?measure⟩
                case measure => simp [intOf]; omega
                exact ⟨k + 1, by omega, by go_num, HC, HG4⟩
              · obtain ⟨hbb, hoo, rfl, hhb, r0, r1, r2, r3, r4, -⟩ := HR4.out.d.r.h k hkl
                have c1 := HR4.out.d.c1
                have htk : wr.cell? ⟨hbb, hoo + k * 9 + m, none⟩ = some (.bool ((G k).h.tk m)) := by
                  have h5' : m = 0 ∨ m = 1 ∨ m = 2 ∨ m = 3 ∨ m = 4 := by omega
                  rcases h5' with rfl | rfl | rfl | rfl | rfl
                  · exact r0
                  · exact r1
                  · exact r2
                  · exact r3
                  · exact r4
                clear r0 r1 r2 r3 r4 hhb
                by_cases htk0 : (G k).h.tk m = false
                · have eT : tkAt G nh T t k (m + 1) = tkAt G nh T t k m := take_off htk0
                  rw [htk0] at htk
                  go_wp2_with fail
                  refine ⟨?_, ?measure⟩
                  case measure => simp [intOf]; omega
                  exact ⟨m + 1, F, by omega, Lib.hid (by rw [eT]; exact HFX.out), rfl, by go_num, Lib.hid (HR4.out.congr (fun i j _ _ => by
                    show (if i = t then (tkAt G nh T t k m).2.1 j else L i j) = if i = t then (tkAt G nh T t k (m + 1)).2.1 j else L i j
                    rw [eT]) (fun i j _ _ => by
                    show (if i = k then (tkAt G nh T t k m).2.2 j else _) = if i = k then (tkAt G nh T t k (m + 1)).2.2 j else _
                    rw [eT])), HG4⟩
                · have eT := take_on (f := (gh G k).force t) (L := (handsAt (gh G) t (T t) (heapsAt (gh G) nh T t) k).1) (H := (handsAt (gh G) t (T t) (heapsAt (gh G) nh T t) k).2 k) htk0
                  have htk1 : (G k).h.tk m = true := by simpa using htk0
                  rw [htk1] at htk
                  have hl := HR4.out.l t hlt m hm5
                  have hh := HR4.out.h k hkl m hm5
                  have q1 := hq m hm5
                  rw [show tkL G nh T L t k m t m = (tkAt G nh T t k m).2.1 m from if_pos rfl] at hl
                  rw [show tkH G nh T t k m k m = (tkAt G nh T t k m).2.2 m from if_pos rfl] at hh
                  obtain ⟨X, eX⟩ : ∃ X, X = (tkAt G nh T t k m).2.1 m := ⟨_, rfl⟩
                  obtain ⟨Y, eY⟩ : ∃ Y, Y = (tkAt G nh T t k m).2.2 m := ⟨_, rfl⟩
                  rw [← eX] at hl q1
                  rw [← eY] at hh q1
                  rw [← HFX.out] at hf2
                  obtain ⟨hl1, hl2⟩ := hl
                  obtain ⟨hh1, hh2⟩ := hh
                  have EX := Lib.hid eX
                  have EY := Lib.hid eY
                  have ET := Lib.hid eT
                  clear eX eY eT hq htk0 htk1
                  have e1 : IntKind.i64.wrap (F - min F X) = F - min F X := IntWalk.i64_in _ (by omega)
                  have e2 : IntKind.i64.wrap (X - min F X) = X - min F X := IntWalk.i64_in _ (by omega)
                  have e3 : IntKind.i64.wrap (Y + min F X) = Y + min F X := IntWalk.i64_in _ (by omega)
                  go_upto_region 18 with fail
                  go_region
                  go_upto_region 19 with fail
                  go_region
                  go_wp2_with fail
                  have HP := Lib.hid (HR4.out.put hlt hkl hm5 (X - min F X) (Y + min F X))
                  have HQ := Lib.hid (gb_put HG4.out (t * 5 + m) (k * 5 + m) (.int .i64 (X - min F X)) (.int .i64 (Y + min F X)))
                  have eT' : tkAt G nh T t k (m + 1) = ((tkAt G nh T t k m).1 - min (tkAt G nh T t k m).1 ((tkAt G nh T t k m).2.1 m),
         (fun q => if q = m then (tkAt G nh T t k m).2.1 m - min (tkAt G nh T t k m).1 ((tkAt G nh T t k m).2.1 m) else (tkAt G nh T t k m).2.1 q),
         (fun q => if q = m then (tkAt G nh T t k m).2.2 m + min (tkAt G nh T t k m).1 ((tkAt G nh T t k m).2.1 m) else (tkAt G nh T t k m).2.2 q)) := ET.out
                  rw [← HFX.out, ← EX.out, ← EY.out] at eT'
                  refine ⟨?_, ?measure⟩
                  case measure => simp [intOf]; omega
                  refine ⟨m + 1, F - min F X, by omega, Lib.hid (by rw [eT']), rfl, by go_num, Lib.hid ?_, Lib.hid (gb_trans HQ.out ⟨rfl, rfl, rfl, Nat.le_refl _, fun _ _ _ => rfl⟩)⟩
                  refine (HP.out.congr (fun i j _ _ => ?_) (fun i j _ _ => ?_)).later ⟨rfl, rfl, rfl, Nat.le_refl _, fun _ _ => rfl⟩
                  · show (if i = t ∧ j = m then X - min F X else if i = t then (tkAt G nh T t k m).2.1 j else L i j) = if i = t then (tkAt G nh T t k (m + 1)).2.1 j else L i j
                    rw [eT']
                    show _ = if i = t then (if j = m then X - min F X else (tkAt G nh T t k m).2.1 j) else L i j
                    by_cases ei : i = t <;> by_cases ej : j = m <;> simp [ei, ej]
                  · show (if i = k ∧ j = m then Y + min F X else if i = k then (tkAt G nh T t k m).2.2 j else (handsAt (gh G) t (T t) (heapsAt (gh G) nh T t) k).2 i j) = if i = k then (tkAt G nh T t k (m + 1)).2.2 j else (handsAt (gh G) t (T t) (heapsAt (gh G) nh T t) k).2 i j
                    rw [eT']
                    show _ = if i = k then (if j = m then Y + min F X else (tkAt G nh T t k m).2.2 j) else (handsAt (gh G) t (T t) (heapsAt (gh G) nh T t) k).2 i j
                    by_cases ei : i = k <;> by_cases ej : j = m <;> simp [ei, ej]
            · obtain rfl : m = 5 := by omega
              have HC := Lib.hid (ru_close HR4.out HB.out HTT.out hm (.inl rfl))
              clear HFX
              go_wp2_with fail
              rw [show ∀ (Q : Exit → Act → World → Prop) (a : Act) (w : World), Exit.noGoto Q .normal a w = Q .normal a w from fun _ _ _ => rfl]
              go_wp2_with fail
              refine ⟨?_, ?measure⟩
              case measure => simp [intOf]; omega
              exact ⟨k + 1, by omega, by go_num, HC, HG4⟩
        · obtain rfl : k = nh := by omega
          have hge : ¬ (k : Int) < (k : Int) := by omega
          go_wp2_with fail
          refine ⟨?_, ?measure⟩
          case measure => simp [intOf]; omega
          refine ⟨t + 1, ruL G k T L t k, by omega, by go_num, fun i hi m hm => ?_, ?_, HG2⟩
          · show (if i = t then _ else L i m) = T i m
            rw [if_neg (by omega)]
            exact hLT i (by omega) m hm
          · rw [Nat.succ_mul, ← Nat.add_assoc]
            exact HR2
    · obtain rfl : t = nt := by omega
      have hge : ¬ (t : Int) < (t : Int) := by omega
      go_wp2_with fail
      go_ret2
      exact ⟨rfl, HG.out, L, HR.out⟩
end Go.Proofs.YtmbkngfcbgbeiaaGreat
