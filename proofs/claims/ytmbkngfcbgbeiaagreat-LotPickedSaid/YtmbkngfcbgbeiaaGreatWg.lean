/- opened, bag, asked, picking, list, less. -/
import Derived.Test.YtmbkngfcbgbeiaaGreatWf
set_option linter.unusedSimpArgs false
set_option linter.unusedVariables false
namespace Go.Proofs.YtmbkngfcbgbeiaaGreat
open Go.RowKit Go.Shelf

/-- the sacks of the first k pickings -/
def allK (st : St) (k j : Nat) : Int := if j < k then (st.P j).s else 0

theorem all_step {st : St} {w : World} {db k : Nat} {o : Obj} (h : ∀ j, j < 4 → w.cell? ⟨db, 3 + j, none⟩ = some (.int .i64 (allK st k j)) ∧ w.frozen? ⟨db, 3 + j, none⟩ = false) (hl : db < w.heap.size) :
    ∀ j, j < 4 → ((w.alloc o).setCell ⟨db, 3 + k, none⟩ (.int .i64 (st.P k).s)).drew.cell? ⟨db, 3 + j, none⟩ = some (.int .i64 (allK st (k + 1) j)) ∧ ((w.alloc o).setCell ⟨db, 3 + k, none⟩ (.int .i64 (st.P k).s)).drew.frozen? ⟨db, 3 + j, none⟩ = false := fun j hj => by
  obtain ⟨x0, x1⟩ := h j hj
  refine ⟨?_, fro_drew_of (fro_set_of _ (fro_alloc_of _ hl x1))⟩
  refine cell_drew_of ?_
  by_cases e : j = k
  · subst e
    rw [World.cell?_setCell_same' _ _ _ (by rw [cell_alloc_of o x0]; rfl)]
    simp [allK]
  · rw [World.cell?_setCell_other _ _ _ _ (by intro h; injection h with _ h _; omega), cell_alloc_of o x0]
    have : allK st (k + 1) j = allK st k j := by unfold allK; split <;> split <;> first | rfl | omega
    rw [this]

/-- what opened gives -/
def OpenedPost (st : St) (B : Nat) (W : World) (e : Ending) (W' : World) : Prop :=
  Below W.heap.size W W' ∧ ((st.ok ∧ ∃ db, e = .returned (.tuple #[.pointer (some ⟨db, 0, none⟩), .int .i64 0]) ∧ DeskOf W' B db st ∧ W.heap.size ≤ db) ∨
    (st.check ≠ 0 ∧ e = .returned (.tuple #[.pointer none, .int .i64 st.check])))

set_option maxRecDepth 100000 in
set_option maxHeartbeats 1000000 in
/-- lot.opened -/
theorem opened_any (st : St) (B : Nat) (pA gA : Option Addr) (pc gc : Nat) (W : World) (hB : B ≤ W.heap.size) (hp : PkRow W B pA st.n st.P) (hg : GdRow W B gA st.m st.G) (hn : st.n ≤ 1000) (hm : st.m ≤ 1000) (hpc : st.n ≤ pc) (hgc : st.m ≤ gc) :
    Calls Tryz.prog 28 #[stV pA st.n pc gA st.m gc st.lots] W (OpenedPost st B W) := by
  have HP := Lib.hid hp
  have HG := Lib.hid hg
  clear hp hg
  go_enter Tryz.func28, Tryz.ntmps28
  go_wp2_with fail
  refine (check_any st pA gA pc gc _ (((HP.out.mono hB).below (by repeat (first | (with_reducible exact Below.refl _ _) | (with_reducible refine Below.drew ?_) | (with_reducible refine below_drewN ?_ _) | ((with_reducible refine below_alloc ?_ ?_ _); · (first | exact Nat.le_refl _ | omega | (simp; done) | (simp; omega) | (simp at *; omega))) | ((with_reducible refine below_set ?_ ?_ _); · (first | exact Nat.le_refl _ | omega | (simp; done) | (simp; omega) | (simp at *; omega))) | ((with_reducible refine below_via (by with_reducible assumption) ?_ ?_); · (first | exact Nat.le_refl _ | omega | (simp; done) | (simp; omega) | (simp at *; omega)))))).mono (by (first | exact Nat.le_refl _ | omega | (simp; done) | (simp; omega) | (simp at *; omega)))) (((HG.out.mono hB).below (by repeat (first | (with_reducible exact Below.refl _ _) | (with_reducible refine Below.drew ?_) | (with_reducible refine below_drewN ?_ _) | ((with_reducible refine below_alloc ?_ ?_ _); · (first | exact Nat.le_refl _ | omega | (simp; done) | (simp; omega) | (simp at *; omega))) | ((with_reducible refine below_set ?_ ?_ _); · (first | exact Nat.le_refl _ | omega | (simp; done) | (simp; omega) | (simp at *; omega))) | ((with_reducible refine below_via (by with_reducible assumption) ?_ ?_); · (first | exact Nat.le_refl _ | omega | (simp; done) | (simp; omega) | (simp at *; omega)))))).mono (by (first | exact Nat.le_refl _ | omega | (simp; done) | (simp; omega) | (simp at *; omega)))) hn hm hpc hgc).mono ?_
  rintro e w1 ⟨rfl, hb1⟩
  obtain ⟨hc1, hf1⟩ := bcell hb1; have hz1 := hb1.size; (try simp only [World.size_drew, World.heap_drewN, World.size_alloc] at hz1)
  have a0 : w1.cell? ⟨W.heap.size, 0, none⟩ = some (.slice pA st.n pc) := (by repeat (first | (with_reducible assumption) | (simp; done) | (with_reducible refine cell_drew_of ?_) | (with_reducible refine cell_drewN_of ?_) | (with_reducible refine cell_below_of (by with_reducible assumption) ?_) | ((with_reducible refine cell_new_of ?_ ?_) <;> (first | (with_reducible rfl) | (simp; done))) | ((with_reducible refine fro_new_of ?_) <;> (first | (with_reducible rfl) | (simp; done))) | (with_reducible refine cell_alloc_of _ ?_) | (with_reducible refine cell_set_of _ (by (first | exact Nat.le_refl _ | omega | (simp; done) | (simp; omega) | (simp at *; omega))) ?_) | (with_reducible refine fro_drew_of ?_) | (with_reducible refine fro_drewN_of ?_) | (with_reducible refine fro_below_of (by with_reducible assumption) (by (first | exact Nat.le_refl _ | omega | (simp; done) | (simp; omega) | (simp at *; omega))) ?_) | (with_reducible refine fro_alloc_of _ (by (first | exact Nat.le_refl _ | omega | (simp; done) | (simp; omega) | (simp at *; omega))) ?_) | (with_reducible refine fro_set_of _ ?_)))
  have a1 : w1.cell? ⟨W.heap.size, 1, none⟩ = some (.slice gA st.m gc) := (by repeat (first | (with_reducible assumption) | (simp; done) | (with_reducible refine cell_drew_of ?_) | (with_reducible refine cell_drewN_of ?_) | (with_reducible refine cell_below_of (by with_reducible assumption) ?_) | ((with_reducible refine cell_new_of ?_ ?_) <;> (first | (with_reducible rfl) | (simp; done))) | ((with_reducible refine fro_new_of ?_) <;> (first | (with_reducible rfl) | (simp; done))) | (with_reducible refine cell_alloc_of _ ?_) | (with_reducible refine cell_set_of _ (by (first | exact Nat.le_refl _ | omega | (simp; done) | (simp; omega) | (simp at *; omega))) ?_) | (with_reducible refine fro_drew_of ?_) | (with_reducible refine fro_drewN_of ?_) | (with_reducible refine fro_below_of (by with_reducible assumption) (by (first | exact Nat.le_refl _ | omega | (simp; done) | (simp; omega) | (simp at *; omega))) ?_) | (with_reducible refine fro_alloc_of _ (by (first | exact Nat.le_refl _ | omega | (simp; done) | (simp; omega) | (simp at *; omega))) ?_) | (with_reducible refine fro_set_of _ ?_)))
  have a2 : w1.cell? ⟨W.heap.size, 2, none⟩ = some (.int .i64 st.lots) := (by repeat (first | (with_reducible assumption) | (simp; done) | (with_reducible refine cell_drew_of ?_) | (with_reducible refine cell_drewN_of ?_) | (with_reducible refine cell_below_of (by with_reducible assumption) ?_) | ((with_reducible refine cell_new_of ?_ ?_) <;> (first | (with_reducible rfl) | (simp; done))) | ((with_reducible refine fro_new_of ?_) <;> (first | (with_reducible rfl) | (simp; done))) | (with_reducible refine cell_alloc_of _ ?_) | (with_reducible refine cell_set_of _ (by (first | exact Nat.le_refl _ | omega | (simp; done) | (simp; omega) | (simp at *; omega))) ?_) | (with_reducible refine fro_drew_of ?_) | (with_reducible refine fro_drewN_of ?_) | (with_reducible refine fro_below_of (by with_reducible assumption) (by (first | exact Nat.le_refl _ | omega | (simp; done) | (simp; omega) | (simp at *; omega))) ?_) | (with_reducible refine fro_alloc_of _ (by (first | exact Nat.le_refl _ | omega | (simp; done) | (simp; omega) | (simp at *; omega))) ?_) | (with_reducible refine fro_set_of _ ?_)))
  have hy : Hid (Below W.heap.size W w1) := Lib.hid (by repeat (first | (with_reducible exact Below.refl _ _) | (with_reducible refine Below.drew ?_) | (with_reducible refine below_drewN ?_ _) | ((with_reducible refine below_alloc ?_ ?_ _); · (first | exact Nat.le_refl _ | omega | (simp; done) | (simp; omega) | (simp at *; omega))) | ((with_reducible refine below_set ?_ ?_ _); · (first | exact Nat.le_refl _ | omega | (simp; done) | (simp; omega) | (simp at *; omega))) | ((with_reducible refine below_via (by with_reducible assumption) ?_ ?_); · (first | exact Nat.le_refl _ | omega | (simp; done) | (simp; omega) | (simp at *; omega)))))
  clear hc1 hf1 hb1
  by_cases h0 : st.check = 0
  · have hok := Lib.hid (St.check_ok.1 h0)
    have hnb : (st.check != 0) = false := by simpa using h0
    clear h0
    have hn4 := hok.out.n4
    have hn1 := hok.out.n1
    go_wp2_with fail
    go_loopw [19] (fun i wr => ∃ k : Nat, k ≤ st.n ∧ i = .int .i64 k ∧ Hid (Below w1.heap.size w1 wr) ∧ w1.heap.size + 1 ≤ wr.heap.size ∧
        (wr.cell? ⟨w1.heap.size, 0, none⟩ = some (.slice pA st.n pc) ∧ wr.cell? ⟨w1.heap.size, 1, none⟩ = some (.slice gA st.m gc) ∧ wr.cell? ⟨w1.heap.size, 2, none⟩ = some (.int .i64 st.lots)) ∧
        Hid (∀ j, j < 4 → wr.cell? ⟨w1.heap.size, 3 + j, none⟩ = some (.int .i64 (allK st k j)) ∧ wr.frozen? ⟨w1.heap.size, 3 + j, none⟩ = false)) (fun i _ => st.n - (intOf i).toNat)
    case atStart =>
      refine ⟨0, Nat.zero_le _, rfl, Lib.hid (by repeat (first | (with_reducible exact Below.refl _ _) | (with_reducible refine Below.drew ?_) | (with_reducible refine below_drewN ?_ _) | ((with_reducible refine below_alloc ?_ ?_ _); · (first | exact Nat.le_refl _ | omega | (simp; done) | (simp; omega) | (simp at *; omega))) | ((with_reducible refine below_set ?_ ?_ _); · (first | exact Nat.le_refl _ | omega | (simp; done) | (simp; omega) | (simp at *; omega))) | ((with_reducible refine below_via (by with_reducible assumption) ?_ ?_); · (first | exact Nat.le_refl _ | omega | (simp; done) | (simp; omega) | (simp at *; omega))))), by simp, by simp [go_sem], Lib.hid ?_⟩
      intro j hj
      match j, hj with
      | 0, _ => simp [allK]
      | 1, _ => simp [allK]
      | 2, _ => simp [allK]
      | 3, _ => simp [allK]
    case round =>
      obtain ⟨k, hk, rfl, hbw, hsz, ⟨d0, d1, d2⟩, hall⟩ := hrel
      have hs1 := hy.out.size
      by_cases hlt : k < st.n
      · obtain ⟨b, o, rfl, hb', c0, c1, c2, c3⟩ := ((HP.out.mono hB).below (hy.out.trans (hbw.out.mono hs1))) k hlt
        have hk4 : (k : Int) < 4 := by omega
        have hk0 : (0 : Int) ≤ (k : Int) := by omega
        have hblt : b < wr.heap.size := by omega
        obtain ⟨e0, e1⟩ := hall.out k (by omega)
        have hne : w1.heap.size ≠ wr.heap.size := by omega
        have hne2 : wr.heap.size ≠ w1.heap.size := by omega
        go_wp2_with fail
        go_region_held3 (fun w' => w'.cell? ⟨wr.heap.size, 0, none⟩ = some (.int .i64 (st.P k).s)) ((go_split_ands; (repeat' refine And.intro ?_ ?_) <;> (repeat (first | (with_reducible assumption) | (simp; done) | (with_reducible refine cell_drew_of ?_) | (with_reducible refine cell_drewN_of ?_) | (with_reducible refine cell_below_of (by with_reducible assumption) ?_) | ((with_reducible refine cell_new_of ?_ ?_) <;> (first | (with_reducible rfl) | (simp; done))) | ((with_reducible refine fro_new_of ?_) <;> (first | (with_reducible rfl) | (simp; done))) | (with_reducible refine cell_alloc_of _ ?_) | (with_reducible refine cell_set_of _ (by (first | exact Nat.le_refl _ | omega | (simp; done) | (simp; omega) | (simp at *; omega))) ?_) | (with_reducible refine fro_drew_of ?_) | (with_reducible refine fro_drewN_of ?_) | (with_reducible refine fro_below_of (by with_reducible assumption) (by (first | exact Nat.le_refl _ | omega | (simp; done) | (simp; omega) | (simp at *; omega))) ?_) | (with_reducible refine fro_alloc_of _ (by (first | exact Nat.le_refl _ | omega | (simp; done) | (simp; omega) | (simp at *; omega))) ?_) | (with_reducible refine fro_set_of _ ?_))))) (fail)
        have hnew := Lib.hid (all_step (o := Obj.cells #[.int .i64 (st.P k).s, .int .i64 (st.P k).w, .int .i64 (st.P k).o, .int .i64 (st.P k).f] 49) hall.out (by omega))
        have hbo := hbw.out
        have hb2 : Hid (Below w1.heap.size w1 ((wr.alloc (Obj.cells #[.int .i64 (st.P k).s, .int .i64 (st.P k).w, .int .i64 (st.P k).o, .int .i64 (st.P k).f] 49)).setCell ⟨w1.heap.size, 3 + k, none⟩ (.int .i64 (st.P k).s)).drew) := Lib.hid (by repeat (first | (with_reducible exact Below.refl _ _) | (with_reducible refine Below.drew ?_) | (with_reducible refine below_drewN ?_ _) | ((with_reducible refine below_alloc ?_ ?_ _); · (first | exact Nat.le_refl _ | omega | (simp; done) | (simp; omega) | (simp at *; omega))) | ((with_reducible refine below_set ?_ ?_ _); · (first | exact Nat.le_refl _ | omega | (simp; done) | (simp; omega) | (simp at *; omega))) | ((with_reducible refine below_via (by with_reducible assumption) ?_ ?_); · (first | exact Nat.le_refl _ | omega | (simp; done) | (simp; omega) | (simp at *; omega)))))
        clear hbo
        go_wp2_with fail
        go_roundw
        case rel =>
          exact ⟨k + 1, by omega, by go_num, hb2, by simp; omega, by simp [go_sem, d0, d1, d2, hne, hne2], hnew⟩
        case measure => simp [intOf]; omega
      · have hk' : k = st.n := by omega
        have hyo := hy.out
        have hbo := hbw.out
        have hDA : Hid (DeskOf wr B w1.heap.size st) := Lib.hid (by
          have ha := hall.out
          rw [hk'] at ha
          exact ⟨by omega, ⟨pA, pc, gA, gc, HP.out.below ((hyo.trans (hbo.mono hs1)).mono hB), HG.out.below ((hyo.trans (hbo.mono hs1)).mono hB), d0, d1, hpc, hgc⟩, d2, (ha 0 (by omega)).1, (ha 1 (by omega)).1, (ha 2 (by omega)).1, (ha 3 (by omega)).1⟩)
        go_wp2_with fail
        go_ret2
        exact ⟨(by repeat (first | (with_reducible exact Below.refl _ _) | (with_reducible refine Below.drew ?_) | (with_reducible refine below_drewN ?_ _) | ((with_reducible refine below_alloc ?_ ?_ _); · (first | exact Nat.le_refl _ | omega | (simp; done) | (simp; omega) | (simp at *; omega))) | ((with_reducible refine below_set ?_ ?_ _); · (first | exact Nat.le_refl _ | omega | (simp; done) | (simp; omega) | (simp at *; omega))) | ((with_reducible refine below_via (by with_reducible assumption) ?_ ?_); · (first | exact Nat.le_refl _ | omega | (simp; done) | (simp; omega) | (simp at *; omega))))), .inl ⟨hok.out, w1.heap.size, rfl, hDA.out, hs1⟩⟩
  · have H0 := Lib.hid h0
    have hnb : (st.check != 0) = true := by simpa using h0
    have hyo := hy.out
    go_wp2_with fail
    go_ret2
    exact ⟨(by repeat (first | (with_reducible exact Below.refl _ _) | (with_reducible refine Below.drew ?_) | (with_reducible refine below_drewN ?_ _) | ((with_reducible refine below_alloc ?_ ?_ _); · (first | exact Nat.le_refl _ | omega | (simp; done) | (simp; omega) | (simp at *; omega))) | ((with_reducible refine below_set ?_ ?_ _); · (first | exact Nat.le_refl _ | omega | (simp; done) | (simp; omega) | (simp at *; omega))) | ((with_reducible refine below_via (by with_reducible assumption) ?_ ?_); · (first | exact Nat.le_refl _ | omega | (simp; done) | (simp; omega) | (simp at *; omega))))), .inr ⟨H0.out, rfl⟩⟩

/-- the first k numbers, 0 behind them -/
def bagK (X : Nat → Int) (k j : Nat) : Int := if j < k then X j else 0
/-- a lot as a bag -/
def bagOf (X : Nat → Int) (n : Nat) : Bag := ⟨bagK X n 0, bagK X n 1, bagK X n 2, bagK X n 3⟩
/-- the error of a lot -/
def St.lotErr (st : St) (n : Nat) (X : Nat → Int) : Int :=
  if n ≠ st.n then 3 else if allN (fun k => inB (X k) 0 (st.P k).s) st.n = false then 4 else 0
def zeroBag : Bag := ⟨0, 0, 0, 0⟩
/-- a lot as a bag, a bag of nothing with an error -/
def St.lotBag (st : St) (n : Nat) (X : Nat → Int) : Bag := if st.lotErr n X = 0 then bagOf X n else zeroBag
theorem St.lotBag_ok {st : St} {n : Nat} {X : Nat → Int} (h : st.lotErr n X = 0) : st.lotBag n X = bagOf X n := if_pos h
theorem St.lotBag_no {st : St} {n : Nat} {X : Nat → Int} (h : st.lotErr n X ≠ 0) : st.lotBag n X = zeroBag := if_neg h

theorem bagOf_in {st : St} {X : Nat → Int} (h : st.lotErr st.n X = 0) : (bagOf X st.n).in_ st.all := by
  unfold St.lotErr at h
  rw [if_neg (by simp)] at h
  by_cases h2 : allN (fun k => inB (X k) 0 (st.P k).s) st.n = false
  · rw [if_pos h2] at h; cases h
  simp only [Bool.not_eq_false] at h2
  have h3 := fun k hk => allN_iff.1 h2 k hk
  simp only [inB, Bool.and_eq_true, decide_eq_true_eq] at h3
  unfold Bag.in_ bagOf St.all bagK
  dsimp only
  refine ⟨?_, ?_, ?_, ?_⟩
  · split
    · exact h3 0 ‹_›
    · omega
  · split
    · exact h3 1 ‹_›
    · omega
  · split
    · exact h3 2 ‹_›
    · omega
  · split
    · exact h3 3 ‹_›
    · omega

theorem bag_step {X : Nat → Int} {w : World} {db k : Nat} (h : ∀ j, j < 4 → w.cell? ⟨db, j, none⟩ = some (.int .i64 (bagK X k j)) ∧ w.frozen? ⟨db, j, none⟩ = false) :
    ∀ j, j < 4 → (w.setCell ⟨db, k, none⟩ (.int .i64 (X k))).cell? ⟨db, j, none⟩ = some (.int .i64 (bagK X (k + 1) j)) ∧ (w.setCell ⟨db, k, none⟩ (.int .i64 (X k))).frozen? ⟨db, j, none⟩ = false := fun j hj => by
  obtain ⟨x0, x1⟩ := h j hj
  refine ⟨?_, fro_set_of _ x1⟩
  by_cases e : j = k
  · subst e
    rw [World.cell?_setCell_same' _ _ _ (by rw [x0]; rfl)]
    simp [bagK]
  · rw [World.cell?_setCell_other _ _ _ _ (by intro h; injection h with _ h _; omega), x0]
    have : bagK X (k + 1) j = bagK X k j := by unfold bagK; split <;> split <;> first | rfl | omega
    rw [this]

set_option maxRecDepth 100000 in
set_option maxHeartbeats 1000000 in
/-- lot.desk.bag -/
theorem bag_any (st : St) (hst : st.ok) (db : Nat) (lA : Option Addr) (ln lc : Nat) (X : Nat → Int) (W : World) (hD : DeskAt W W.heap.size db st) (hl : IntRow W W.heap.size lA ln X) (hn : ln ≤ 1000) :
    Calls Tryz.prog 78 #[.pointer (some ⟨db, 0, none⟩), .slice lA ln lc] W fun e W' =>
      e = .returned (.tuple #[bagV (st.lotBag ln X), .int .i64 (st.lotErr ln X)]) ∧ Below W.heap.size W W' := by
  have HL := Lib.hid hl
  have HD := Lib.hid hD
  have n4 := hst.n4
  have n1 := hst.n1
  have hd1 : db < W.heap.size := hD.lt
  have hd2 : db < W.heap.size + 1 := by omega
  have hd3 : db < W.heap.size + 2 := by omega
  obtain ⟨pA, pc, gA, gc, hp, hg, q0, q1, q2, q3⟩ := hD.rows
  have HA := Lib.hid st.all_at
  have HC := Lib.hid (And.intro hD.c0 (And.intro hD.c1 (And.intro hD.c2 hD.c3)))
  clear hst hD hp hg hl
  by_cases hlen : ln = st.n
  · subst hlen
    have HE : Hid (st.lotErr st.n X = if allN (fun k => inB (X k) 0 (st.P k).s) st.n = false then 4 else 0) := Lib.hid (by unfold St.lotErr; rw [if_neg (by simp)])
    have hne : (((st.n : Nat) : Int) != ((st.n : Nat) : Int)) = false := by simp
    go_enter Tryz.func78, Tryz.ntmps78
    go_wp2_with fail
    go_loopw [21] (fun i wr => ∃ k : Nat, k ≤ st.n ∧ i = .int .i64 k ∧ Hid (Below W.heap.size W wr) ∧ wr.heap.size = W.heap.size + 2 ∧ Hid (∀ j, j < k → inB (X j) 0 (st.P j).s = true) ∧
        (wr.cell? ⟨W.heap.size, 0, none⟩ = some (.int .i64 0) ∧ wr.cell? ⟨W.heap.size, 1, none⟩ = some (.int .i64 0) ∧ wr.cell? ⟨W.heap.size, 2, none⟩ = some (.int .i64 0) ∧ wr.cell? ⟨W.heap.size, 3, none⟩ = some (.int .i64 0)) ∧
        (wr.frozen? ⟨W.heap.size, 0, none⟩ = false ∧ wr.frozen? ⟨W.heap.size, 1, none⟩ = false ∧ wr.frozen? ⟨W.heap.size, 2, none⟩ = false ∧ wr.frozen? ⟨W.heap.size, 3, none⟩ = false) ∧
        Hid (∀ j, j < 4 → wr.cell? ⟨W.heap.size + 1, j, none⟩ = some (.int .i64 (bagK X k j)) ∧ wr.frozen? ⟨W.heap.size + 1, j, none⟩ = false)) (fun i _ => st.n - (intOf i).toNat)
    case atStart =>
      refine ⟨0, Nat.zero_le _, rfl, Lib.hid (by repeat (first | (with_reducible exact Below.refl _ _) | (with_reducible refine Below.drew ?_) | (with_reducible refine below_drewN ?_ _) | ((with_reducible refine below_alloc ?_ ?_ _); · (first | exact Nat.le_refl _ | omega | (simp; done) | (simp; omega) | (simp at *; omega))) | ((with_reducible refine below_set ?_ ?_ _); · (first | exact Nat.le_refl _ | omega | (simp; done) | (simp; omega) | (simp at *; omega))) | ((with_reducible refine below_via (by with_reducible assumption) ?_ ?_); · (first | exact Nat.le_refl _ | omega | (simp; done) | (simp; omega) | (simp at *; omega))))), by simp, Lib.hid (fun j hj => absurd hj (by omega)), by simp [go_sem], by simp [go_sem], Lib.hid ?_⟩
      intro j hj
      match j, hj with
      | 0, _ => simp [bagK, go_sem]
      | 1, _ => simp [bagK, go_sem]
      | 2, _ => simp [bagK, go_sem]
      | 3, _ => simp [bagK, go_sem]
    case round =>
      obtain ⟨k, hk, rfl, hbw, hsz, hall, ⟨r0, r1, r2, r3⟩, ⟨f0, f1, f2, f3⟩, hcs⟩ := hrel
      have HSZ := Lib.hid hsz
      clear hsz
      by_cases hlt : k < st.n
      · obtain ⟨b, o, rfl, hb', c0⟩ := (HL.out.below hbw.out) k hlt
        have hk4 : (k : Int) < 4 := by omega
        have hk0 : (0 : Int) ≤ (k : Int) := by omega
        obtain ⟨g0, g1⟩ := hcs.out k (by omega)
        have hbo := hbw.out
        have hall' : Hid (wr.cell? ⟨db, 3 + k, none⟩ = some (.int .i64 (st.P k).s)) := Lib.hid (by
          have h1 := HA.out k (by omega)
          rw [if_pos hlt] at h1
          have h2 : W.cell? ⟨db, 3 + k, none⟩ = some (.int .i64 (st.all.at k)) := by
            match k, (show k < 4 by omega) with
            | 0, _ => exact HC.out.1
            | 1, _ => exact HC.out.2.1
            | 2, _ => exact HC.out.2.2.1
            | 3, _ => exact HC.out.2.2.2
          rw [h1] at h2
          exact (hbo.cell (p := ⟨db, 3 + k, none⟩) hd1).trans h2)
        have hcell := hall'.out
        have z0 : wr.cell? ⟨db, 0, none⟩ = some (.slice pA st.n pc) := (hbo.cell (p := ⟨db, 0, none⟩) hd1).trans q0
        cases hin : inB (X k) 0 (st.P k).s with
        | false =>
          have HE4 : Hid (st.lotErr st.n X = 4) := Lib.hid (by rw [HE.out, if_pos (allN_false (k := k) hlt hin)])
          go_wp2_with (go_at_call 67; refine (in_any _ _ _ _).mono ?_; rintro e w' ⟨rfl, rfl⟩)
          exact bodyPost_ret (v := .tuple #[bagV zeroBag, .int .i64 4]) (by simp [results, Tryz.results78, go_sem, zeroBag, *]) rfl ⟨by rw [St.lotBag_no (by rw [HE4.out]; decide), HE4.out], (by repeat (first | (with_reducible exact Below.refl _ _) | (with_reducible refine Below.drew ?_) | (with_reducible refine below_drewN ?_ _) | ((with_reducible refine below_alloc ?_ ?_ _); · (first | exact Nat.le_refl _ | omega | (simp; done) | (simp; omega) | (simp at *; omega))) | ((with_reducible refine below_set ?_ ?_ _); · (first | exact Nat.le_refl _ | omega | (simp; done) | (simp; omega) | (simp at *; omega))) | ((with_reducible refine below_via (by with_reducible assumption) ?_ ?_); · (first | exact Nat.le_refl _ | omega | (simp; done) | (simp; omega) | (simp at *; omega)))))⟩
        | true =>
          have hin' := Lib.hid hin
          have hnew := Lib.hid (bag_step hcs.out)
          have hb2 : Hid (Below W.heap.size W (wr.setCell ⟨W.heap.size + 1, k, none⟩ (.int .i64 (X k)))) := Lib.hid (by repeat (first | (with_reducible exact Below.refl _ _) | (with_reducible refine Below.drew ?_) | (with_reducible refine below_drewN ?_ _) | ((with_reducible refine below_alloc ?_ ?_ _); · (first | exact Nat.le_refl _ | omega | (simp; done) | (simp; omega) | (simp at *; omega))) | ((with_reducible refine below_set ?_ ?_ _); · (first | exact Nat.le_refl _ | omega | (simp; done) | (simp; omega) | (simp at *; omega))) | ((with_reducible refine below_via (by with_reducible assumption) ?_ ?_); · (first | exact Nat.le_refl _ | omega | (simp; done) | (simp; omega) | (simp at *; omega)))))
          clear hbo
          go_wp2_with (go_at_call 67; refine (in_any _ _ _ _).mono ?_; rintro e w' ⟨rfl, rfl⟩)
          go_roundw
          case rel => exact ⟨k + 1, by omega, by go_num, hb2, by simp; exact HSZ.out, Lib.hid (fun j hj => by rcases Nat.lt_or_ge j k with h | h; exact hall.out j h; rw [show j = k from by omega]; exact hin'.out), by simp [go_sem, r0, r1, r2, r3], by simp [go_sem, f0, f1, f2, f3], hnew⟩
          case measure => simp [intOf]; omega
      · have hk' : k = st.n := by omega
        have HE0 : Hid (st.lotErr st.n X = 0) := Lib.hid (by rw [HE.out, if_neg (by rw [allN_iff.2 (fun j hj => hall.out j (by omega))]; decide)])
        obtain ⟨⟨s0, _⟩, ⟨s1, _⟩, ⟨s2, _⟩, ⟨s3, _⟩⟩ := (⟨hcs.out 0 (by omega), hcs.out 1 (by omega), hcs.out 2 (by omega), hcs.out 3 (by omega)⟩ : _ ∧ _ ∧ _ ∧ _)
        have hbo := hbw.out
        go_wp2_with fail
        exact bodyPost_ret (v := .tuple #[bagV (bagOf X st.n), .int .i64 0]) (by simp [results, Tryz.results78, go_sem, bagOf, ← hk', r0, r1, r2, r3]) rfl ⟨by rw [St.lotBag_ok HE0.out, HE0.out], (by repeat (first | (with_reducible exact Below.refl _ _) | (with_reducible refine Below.drew ?_) | (with_reducible refine below_drewN ?_ _) | ((with_reducible refine below_alloc ?_ ?_ _); · (first | exact Nat.le_refl _ | omega | (simp; done) | (simp; omega) | (simp at *; omega))) | ((with_reducible refine below_set ?_ ?_ _); · (first | exact Nat.le_refl _ | omega | (simp; done) | (simp; omega) | (simp at *; omega))) | ((with_reducible refine below_via (by with_reducible assumption) ?_ ?_); · (first | exact Nat.le_refl _ | omega | (simp; done) | (simp; omega) | (simp at *; omega)))))⟩
  · have HE : Hid (st.lotErr ln X = 3) := Lib.hid (by unfold St.lotErr; rw [if_pos hlen])
    have hne : (((ln : Nat) : Int) != ((st.n : Nat) : Int)) = true := by rw [bne_iff_ne]; omega
    go_enter Tryz.func78, Tryz.ntmps78
    go_wp2_with fail
    exact bodyPost_ret (v := .tuple #[bagV zeroBag, .int .i64 3]) (by simp [results, Tryz.results78, go_sem, zeroBag]) rfl ⟨by rw [St.lotBag_no (by rw [HE.out]; decide), HE.out], (by repeat (first | (with_reducible exact Below.refl _ _) | (with_reducible refine Below.drew ?_) | (with_reducible refine below_drewN ?_ _) | ((with_reducible refine below_alloc ?_ ?_ _); · (first | exact Nat.le_refl _ | omega | (simp; done) | (simp; omega) | (simp at *; omega))) | ((with_reducible refine below_set ?_ ?_ _); · (first | exact Nat.le_refl _ | omega | (simp; done) | (simp; omega) | (simp at *; omega))) | ((with_reducible refine below_via (by with_reducible assumption) ?_ ?_); · (first | exact Nat.le_refl _ | omega | (simp; done) | (simp; omega) | (simp at *; omega)))))⟩
end Go.Proofs.YtmbkngfcbgbeiaaGreat
