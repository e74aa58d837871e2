/- The reference: Tells. -/
import Derived.Test.YtegmomappbehcaaTg
set_option linter.unusedSimpArgs false
set_option linter.unusedVariables false
namespace Go.Proofs.Ytegmomappbehcaa
open Go.RowKit Go.Shelf

theorem sumN_one {f g : Nat → Int} : ∀ {n i : Nat}, i < n → (∀ k, k < n → k ≠ i → g k = f k) → sumN g n = sumN f n - f i + g i
  | 0, i, hi, _ => absurd hi (by omega)
  | n + 1, i, hi, h => by
    simp only [sumN]
    by_cases e : i = n
    · subst e
      rw [sumN_congr (fun k hk => h k (by omega) (by omega))]
      omega
    · rw [sumN_one (show i < n by omega) (fun k hk hn => h k (by omega) hn), h n (by omega) (by omega)]
      omega
/-- what is asked of a number of foul sacks of a picking -/
def tellB (x : Pk) (m ol oh ll lh n : Int) : Bool := decide (max 0 (n - (x.s - m)) + ol ≤ lh) && decide (ll ≤ min n m + oh)
theorem toldStep_eq (x : Pk) (m ol oh ll lh n : Int) (t : Int × Int) : toldStep x m ol oh ll lh n t = if tellB x m ol oh ll lh n then (min t.1 n, n) else t := by
  unfold toldStep tellB
  by_cases h : max 0 (n - (x.s - m)) + ol ≤ lh ∧ ll ≤ min n m + oh
  · rw [if_pos h, if_pos (by simp [h.1, h.2])]
  · rw [if_neg h, if_neg (by simpa using h)]
theorem tr_tell {st : St} (hst : st.ok) {X : Nat → Int} (hX : ∀ k, k < st.n → 0 ≤ X k ∧ X k ≤ (st.P k).s) {opened found : Int} (ho : 0 ≤ opened ∧ opened ≤ (bagOf X st.n).size) (hf : 0 ≤ found ∧ found ≤ opened) {i : Nat} (hi : i < st.n) {F : Int} (hF : (st.P i).f ≤ F ∧ F ≤ (st.P i).hi) :
    decide (0 ≤ (eS ((25 : Nat) : Int) (aft (st.tr X i F st.n) (bagOf X st.n).size opened found) 25).2) =
      tellB (st.P i) ((bagOf X st.n).at i) (st.lo (bagOf X st.n) - (st.P i).loOf ((bagOf X st.n).at i)) (st.hi (bagOf X st.n) - (st.P i).hiOf ((bagOf X st.n).at i)) (st.leftLo (bagOf X st.n) found) (st.leftHi (bagOf X st.n) opened found) F := by
  have n4 := hst.n4
  have hin := rng_in hst hX
  have h1 := St.lo_bd hst hin
  have h2 := St.hi_bd hst hin
  have hsz := St.size_bd hst hin
  have hi4 : i < 4 := by omega
  have hxi := hX i hi
  have hp := hst.pk i hi
  have hs := hst.sp i hi
  have e1 : sumN (st.tlo X i F) st.n = st.lo (bagOf X st.n) - (st.P i).loOf (X i) + max 0 (F - ((st.P i).s - X i)) := by
    rw [sumN_one (f := fun k => (st.P k).loOf ((bagOf X st.n).at k)) hi (fun k hk hn => by unfold St.tlo; rw [if_neg (by omega), bagOf_at hk (by omega)])]
    unfold St.tlo; rw [if_pos rfl, bagOf_at hi hi4]; rfl
  have e2 : sumN (st.thi X i F) st.n = st.hi (bagOf X st.n) - (st.P i).hiOf (X i) + min F (X i) := by
    rw [sumN_one (f := fun k => (st.P k).hiOf ((bagOf X st.n).at k)) hi (fun k hk hn => by unfold St.thi; rw [if_neg (by omega), bagOf_at hk (by omega)])]
    unfold St.thi; rw [if_pos rfl, bagOf_at hi hi4]; rfl
  have h3 := St.tr_iff hst.pk hst.sp hX (pick := (i : Int)) (F := F) (fun k _ h => by obtain rfl : k = i := (by omega); exact hF) st.n (Nat.le_refl _)
  rw [e1, e2] at h3
  have h4 := aft_ends (size := (bagOf X st.n).size) (opened := opened) (found := found) h3
  rw [bagOf_at hi hi4]
  have b0 : 0 ≤ sumN (st.tlo X i F) st.n := by
    have : sumN (fun _ => 0) st.n ≤ sumN (st.tlo X i F) st.n := sumN_le (fun k hk => by
      unfold St.tlo Pk.loOf; split <;> omega)
    rw [sumN_zero (fun _ _ => rfl)] at this
    exact this
  have b1 : sumN (st.tlo X i F) st.n ≤ sumN (st.thi X i F) st.n := sumN_le (fun k hk => by
    have h1 := hst.pk k hk
    have h2 := hst.sp k hk
    have h3 := hX k hk
    unfold Pk.rng at h1
    have hh : (st.P k).hi ≤ (st.P k).s := by unfold Pk.hi; omega
    have hh2 : (st.P k).hi ≤ (st.P k).s - (st.P k).o + (st.P k).f := by unfold Pk.hi; omega
    unfold St.tlo St.thi Pk.loOf Pk.hiOf
    split
    · obtain rfl : k = i := (by omega)
      omega
    · omega)
  rw [e1] at b0
  rw [e1, e2] at b1
  unfold tellB St.leftHi St.leftLo
  unfold Pk.rng at hp
  have hh : (st.P i).hi ≤ (st.P i).s := by unfold Pk.hi; omega
  have hh2 : (st.P i).hi ≤ (st.P i).s - (st.P i).o + (st.P i).f := by unfold Pk.hi; omega
  generalize st.lo (bagOf X st.n) = lo at *
  generalize st.hi (bagOf X st.n) = hg at *
  generalize (bagOf X st.n).size = sz at *
  unfold Pk.loOf Pk.hiOf at *
  by_cases h5 : min (hg - min (X i) (st.P i).hi + min F (X i)) (sz - opened + found) < max (lo - max 0 ((st.P i).f - ((st.P i).s - X i)) + max 0 (F - ((st.P i).s - X i))) found
  · rw [eS_no (len := 25) (by omega) h5 (fun j _ => h4 j)]
    rw [← Bool.decide_and]
    apply decide_eq_decide.2
    simp only []
    omega
  · rw [eS_all (len := 25) (by omega) (by omega) (by omega) (fun j _ => h4 j)]
    rw [← Bool.decide_and]
    apply decide_eq_decide.2
    simp only []
    omega

/-- the numbers that were told, as far as K were asked -/
def tellK (f : Nat) (q : Int → Bool) (K j : Nat) : Bool := (decide (f ≤ j) && decide (j < f + K)) && q j
theorem eS_tell {x : Pk} {m ol oh ll lh : Int} {f K : Nat} (hf : x.f = f) (hK : f + K ≤ 7) : eS ((7 : Nat) : Int) (tellK f (tellB x m ol oh ll lh) K) 7 = toldN x m ol oh ll lh K := by
  have hA : ∀ j, j ≤ f → eS ((7 : Nat) : Int) (tellK f (tellB x m ol oh ll lh) K) j = (7, -1) := by
    intro j
    induction j with
    | zero => intro _; rfl
    | succ j ih =>
      intro hj
      unfold eS
      rw [ih (by omega), if_neg (by simp [tellK]; omega)]
  have hB : ∀ k, k ≤ K → eS ((7 : Nat) : Int) (tellK f (tellB x m ol oh ll lh) K) (f + k) = toldN x m ol oh ll lh k := by
    intro k
    induction k with
    | zero => intro _; exact hA f (Nat.le_refl _)
    | succ k ih =>
      intro hk
      show eS _ _ ((f + k) + 1) = _
      unfold eS toldN
      rw [ih (by omega), toldStep_eq, hf]
      have e : tellK f (tellB x m ol oh ll lh) K (f + k) = tellB x m ol oh ll lh ((f : Int) + (k : Int)) := by
        unfold tellK
        rw [decide_eq_true (by omega), decide_eq_true (by omega)]
        simp
      rw [e]
      by_cases h : tellB x m ol oh ll lh ((f : Int) + (k : Int)) = true
      · rw [if_pos h, if_pos h]
        have ec : ((f + k : Nat) : Int) = (f : Int) + (k : Int) := by omega
        rw [ec]
        refine Prod.ext ?_ ?_
        · show (if (f : Int) + (k : Int) < (toldN x m ol oh ll lh k).1 then (f : Int) + (k : Int) else (toldN x m ol oh ll lh k).1) = min (toldN x m ol oh ll lh k).1 ((f : Int) + (k : Int))
          simp only [Int.min_def]
          split <;> split <;> omega
        · rfl
      · rw [if_neg h, if_neg h]
  have hC : ∀ d, eS ((7 : Nat) : Int) (tellK f (tellB x m ol oh ll lh) K) (f + K + d) = eS ((7 : Nat) : Int) (tellK f (tellB x m ol oh ll lh) K) (f + K) := by
    intro d
    induction d with
    | zero => rfl
    | succ d ih =>
      show (if tellK f (tellB x m ol oh ll lh) K (f + K + d) then _ else _) = _
      rw [if_neg (by unfold tellK; rw [decide_eq_false (show ¬ f + K + d < f + K by omega)]; simp)]
      exact ih
  have := hC (7 - (f + K))
  rw [show f + K + (7 - (f + K)) = 7 by omega, hB K (Nat.le_refl _)] at this
  exact this

/-- a block of 7 truth values -/
def Bool7 (w : World) (b : Nat) (X : Nat → Bool) : Prop := (∀ k, k < 7 → w.cell? ⟨b, k, none⟩ = some (.bool (X k))) ∧ ∀ k, w.frozen? ⟨b, k, none⟩ = false
theorem Bool7.same {w w' : World} {b : Nat} {X : Nat → Bool} (h : Bool7 w b X) (hb : w'.heap[b]? = w.heap[b]?) : Bool7 w' b X :=
  ⟨fun k hk => (World.cell?_of_block hb).trans (h.1 k hk), fun k => fro_same hb (h.2 k)⟩
theorem Bool7.lt {w : World} {b : Nat} {X : Nat → Bool} (h : Bool7 w b X) : b < w.heap.size := World.block_lt_of_cell? w _ (h.1 0 (by omega))
theorem Bool7.row {w : World} {b : Nat} {X : Nat → Bool} (h : Bool7 w b X) : BoolRow w w.heap.size (some ⟨b, 0, none⟩) 7 X := fun k hk => ⟨b, 0, rfl, h.lt, by rw [Nat.zero_add]; exact h.1 k hk⟩
theorem Bool7.congr {w : World} {b : Nat} {X Y : Nat → Bool} (h : Bool7 w b X) (e : ∀ k, k < 7 → X k = Y k) : Bool7 w b Y := ⟨fun k hk => (h.1 k hk).trans (by rw [e k hk]), h.2⟩
theorem Bool7.set {w : World} {b : Nat} {X : Nat → Bool} (h : Bool7 w b X) (k : Nat) (v : Bool) : Bool7 (w.setCell ⟨b, k, none⟩ (.bool v)) b (fun j => if j = k then v else X j) := by
  refine ⟨fun j hj => ?_, fun j => fro_set_of _ (h.2 j)⟩
  by_cases e : j = k
  · subst e
    have := h.1 j hj
    simp [go_sem, this]
  · have := h.1 j hj
    simp [go_sem, this, e]
theorem bool7_new (w : World) : Bool7 (w.alloc (.cells #[.bool false, .bool false, .bool false, .bool false, .bool false, .bool false, .bool false] 4)) w.heap.size (fun _ => false) := by
  refine ⟨fun k hk => ?_, fun k => fro_new_of rfl⟩
  refine cell_new_of rfl ?_
  match k, hk with
  | 0, _ | 1, _ | 2, _ | 3, _ | 4, _ | 5, _ | 6, _ => rfl
  | k + 7, h => exact absurd h (by omega)
theorem mk7 (w : World) : (Instr.makeSlice 146 (.int .i64 7) (.int .i64 7)).run Try.prog w = .ok (.slice (some ⟨w.heap.size, 0, none⟩) 7 7) (w.alloc (.cells #[.bool false, .bool false, .bool false, .bool false, .bool false, .bool false, .bool false] 4)) := by kernel_rfl

/-- what one picking is told, walked -/
def tellQ (st : St) (X : Nat → Int) (opened found : Int) (i : Nat) (n : Int) : Bool :=
  tellB (st.P i) ((bagOf X st.n).at i) (st.lo (bagOf X st.n) - (st.P i).loOf ((bagOf X st.n).at i)) (st.hi (bagOf X st.n) - (st.P i).hiOf ((bagOf X st.n).at i)) (st.leftLo (bagOf X st.n) found) (st.leftHi (bagOf X st.n) opened found) n

set_option maxRecDepth 100000 in
set_option maxHeartbeats 4000000 in
theorem rTells_any (st : St) (B : Nat) (pA gA : Option Addr) (pc gc : Nat) (lA : Option Addr) (ln lc : Nat) (X : Nat → Int) (opened found : Int) (W : World) (hs : StRow W B st pA pc gA gc) (hl : IntRow W W.heap.size lA ln X) (hn : ln ≤ 1000) :
    Calls Try.prog 32 #[stV pA st.n pc gA st.m gc st.lots, .slice lA ln lc, .int .i64 opened, .int .i64 found] W (TellsPost st ln X opened found W) := by
  have HS := Lib.hid hs; have HL := Lib.hid hl; have hB := hs.lt; clear hs hl
  go_enter Try.func32, Try.ntmps32
  go_wp2_with fail
  refine (rLeft_any st B pA gA pc gc lA ln lc X opened found _ (HS.out.later (by repeat (first | (with_reducible exact Below.refl _ _) | (with_reducible refine Below.drew ?_) | (with_reducible refine below_drewN ?_ _) | ((with_reducible refine below_alloc ?_ ?_ _); · (first | exact Nat.le_refl _ | omega | (simp; done) | (simp; omega) | (simp at *; omega))) | ((with_reducible refine below_set ?_ ?_ _); · (first | exact Nat.le_refl _ | omega | (simp; done) | (simp; omega) | (simp at *; omega))) | ((with_reducible refine below_via (by with_reducible assumption) ?_ ?_); · (first | exact Nat.le_refl _ | omega | (simp; done) | (simp; omega) | (simp at *; omega)))))) (HL.out.later (by repeat (first | (with_reducible exact Below.refl _ _) | (with_reducible refine Below.drew ?_) | (with_reducible refine below_drewN ?_ _) | ((with_reducible refine below_alloc ?_ ?_ _); · (first | exact Nat.le_refl _ | omega | (simp; done) | (simp; omega) | (simp at *; omega))) | ((with_reducible refine below_set ?_ ?_ _); · (first | exact Nat.le_refl _ | omega | (simp; done) | (simp; omega) | (simp at *; omega))) | ((with_reducible refine below_via (by with_reducible assumption) ?_ ?_); · (first | exact Nat.le_refl _ | omega | (simp; done) | (simp; omega) | (simp at *; omega)))))) hn).mono ?_
  rintro e w1 ⟨rfl, hb1⟩
  have HB1 := Lib.hid (show Below W.heap.size W w1 from (by repeat (first | (with_reducible exact Below.refl _ _) | (with_reducible refine Below.drew ?_) | (with_reducible refine below_drewN ?_ _) | ((with_reducible refine below_alloc ?_ ?_ _); · (first | exact Nat.le_refl _ | omega | (simp; done) | (simp; omega) | (simp at *; omega))) | ((with_reducible refine below_set ?_ ?_ _); · (first | exact Nat.le_refl _ | omega | (simp; done) | (simp; omega) | (simp at *; omega))) | ((with_reducible refine below_via (by with_reducible assumption) ?_ ?_); · (first | exact Nat.le_refl _ | omega | (simp; done) | (simp; omega) | (simp at *; omega))))))
  have hs1 := hb1.size
  simp only [World.size_alloc] at hs1
  have HA := Lib.hid (show w1.cell? ⟨W.heap.size, 0, none⟩ = some (.slice pA st.n pc) ∧ w1.cell? ⟨W.heap.size, 1, none⟩ = some (.slice gA st.m gc) ∧ w1.cell? ⟨W.heap.size, 2, none⟩ = some (.int .i64 st.lots) from ⟨cell_below_of hb1 (by (repeat' refine And.intro ?_ ?_) <;> (repeat (first | (with_reducible assumption) | (simp; done) | (with_reducible refine cell_drew_of ?_) | (with_reducible refine cell_drewN_of ?_) | (with_reducible refine cell_below_of (by with_reducible assumption) ?_) | ((with_reducible refine cell_new_of ?_ ?_) <;> (first | (with_reducible rfl) | (simp; done))) | ((with_reducible refine fro_new_of ?_) <;> (first | (with_reducible rfl) | (simp; done))) | (with_reducible refine cell_alloc_of _ ?_) | (with_reducible refine cell_set_of _ (by (first | exact Nat.le_refl _ | omega | (simp; done) | (simp; omega))) ?_) | (with_reducible refine fro_drew_of ?_) | (with_reducible refine fro_drewN_of ?_) | (with_reducible refine fro_below_of (by with_reducible assumption) (by (first | exact Nat.le_refl _ | omega | (simp; done) | (simp; omega))) ?_) | (with_reducible refine fro_alloc_of _ (by (first | exact Nat.le_refl _ | omega | (simp; done) | (simp; omega))) ?_) | (with_reducible refine fro_set_of _ ?_)))), cell_below_of hb1 (by (repeat' refine And.intro ?_ ?_) <;> (repeat (first | (with_reducible assumption) | (simp; done) | (with_reducible refine cell_drew_of ?_) | (with_reducible refine cell_drewN_of ?_) | (with_reducible refine cell_below_of (by with_reducible assumption) ?_) | ((with_reducible refine cell_new_of ?_ ?_) <;> (first | (with_reducible rfl) | (simp; done))) | ((with_reducible refine fro_new_of ?_) <;> (first | (with_reducible rfl) | (simp; done))) | (with_reducible refine cell_alloc_of _ ?_) | (with_reducible refine cell_set_of _ (by (first | exact Nat.le_refl _ | omega | (simp; done) | (simp; omega))) ?_) | (with_reducible refine fro_drew_of ?_) | (with_reducible refine fro_drewN_of ?_) | (with_reducible refine fro_below_of (by with_reducible assumption) (by (first | exact Nat.le_refl _ | omega | (simp; done) | (simp; omega))) ?_) | (with_reducible refine fro_alloc_of _ (by (first | exact Nat.le_refl _ | omega | (simp; done) | (simp; omega))) ?_) | (with_reducible refine fro_set_of _ ?_)))), cell_below_of hb1 (by (repeat' refine And.intro ?_ ?_) <;> (repeat (first | (with_reducible assumption) | (simp; done) | (with_reducible refine cell_drew_of ?_) | (with_reducible refine cell_drewN_of ?_) | (with_reducible refine cell_below_of (by with_reducible assumption) ?_) | ((with_reducible refine cell_new_of ?_ ?_) <;> (first | (with_reducible rfl) | (simp; done))) | ((with_reducible refine fro_new_of ?_) <;> (first | (with_reducible rfl) | (simp; done))) | (with_reducible refine cell_alloc_of _ ?_) | (with_reducible refine cell_set_of _ (by (first | exact Nat.le_refl _ | omega | (simp; done) | (simp; omega))) ?_) | (with_reducible refine fro_drew_of ?_) | (with_reducible refine fro_drewN_of ?_) | (with_reducible refine fro_below_of (by with_reducible assumption) (by (first | exact Nat.le_refl _ | omega | (simp; done) | (simp; omega))) ?_) | (with_reducible refine fro_alloc_of _ (by (first | exact Nat.le_refl _ | omega | (simp; done) | (simp; omega))) ?_) | (with_reducible refine fro_set_of _ ?_))))⟩)
  clear hb1
  by_cases h0 : st.sampErr ln X opened found = 0
  · have HE := Lib.hid h0
    have hask : st.askErr ln X = 0 ∧ inB opened 0 (bagOf X ln).size = true ∧ inB found 0 opened = true := by
      unfold St.sampErr at h0
      by_cases h1 : st.askErr ln X = 0
      · rw [if_neg (by simpa using h1)] at h0
        by_cases h2 : inB opened 0 (bagOf X ln).size = false ∨ inB found 0 opened = false
        · rw [if_pos h2] at h0; cases h0
        · simp only [not_or, Bool.not_eq_false] at h2
          exact ⟨h1, h2⟩
      · rw [if_pos h1] at h0; exact absurd h0 h1
    have e1 : st.leftR ln X opened found = (st.leftLo (bagOf X ln) found, st.leftHi (bagOf X ln) opened found, 0) := by unfold St.leftR; rw [if_neg (by simpa using h0)]
    rw [e1]
    have HASK := Lib.hid hask
    have HST := Lib.hid (St.askErr_ok hask.1).1
    have HX := Lib.hid (ask_rng hask.1)
    obtain rfl : ln = st.n := (St.askErr_ok hask.1).2.2
    have hop : Hid (0 ≤ opened ∧ opened ≤ (bagOf X st.n).size) := Lib.hid (by simpa [inB] using HASK.out.2.1)
    have hfo : Hid (0 ≤ found ∧ found ≤ opened) := Lib.hid (by simpa [inB] using HASK.out.2.2)
    have n4 := HST.out.n4
    clear h0 hask e1
    generalize st.leftLo (bagOf X st.n) found = LL0
    generalize st.leftHi (bagOf X st.n) opened found = LH0
    obtain ⟨i0, hi, hz0, hz1, hz2⟩ := info_parts infoSp
    go_wp2_with fail
    refine wp_world (fun W1 => (W1.cell? ⟨W.heap.size, 0, none⟩ = some (.slice pA st.n pc) ∧ W1.cell? ⟨W.heap.size, 1, none⟩ = some (.slice gA st.m gc) ∧ W1.cell? ⟨W.heap.size, 2, none⟩ = some (.int .i64 st.lots)) ∧ Below W.heap.size W W1 ∧ W.heap.size + 1 ≤ W1.heap.size) ⟨⟨cell_alloc_of _ HA.out.1, cell_alloc_of _ HA.out.2.1, cell_alloc_of _ HA.out.2.2⟩, by (have hbo := HB1.out); exact (by repeat (first | (with_reducible exact Below.refl _ _) | (with_reducible refine Below.drew ?_) | (with_reducible refine below_drewN ?_ _) | ((with_reducible refine below_alloc ?_ ?_ _); · (first | exact Nat.le_refl _ | omega | (simp; done) | (simp; omega) | (simp at *; omega))) | ((with_reducible refine below_set ?_ ?_ _); · (first | exact Nat.le_refl _ | omega | (simp; done) | (simp; omega) | (simp at *; omega))) | ((with_reducible refine below_via (by with_reducible assumption) ?_ ?_); · (first | exact Nat.le_refl _ | omega | (simp; done) | (simp; omega) | (simp at *; omega))))), by simp; omega⟩ ?_
    rintro W4 ⟨hab, hb4, hs4⟩
    have HA4 := Lib.hid hab
    have HB4 := Lib.hid hb4
    clear hab hb4 HA HB1 hs1
    go_loopw [12, 13] (fun v i wr => ∃ k : Nat, k ≤ st.n ∧ i = .int .i64 k ∧ Hid (wr.ownsRow W4.heap.size 50 2 v k (numCells (spCell (st.told (bagOf X st.n) (st.leftLo (bagOf X st.n) found) (st.leftHi (bagOf X st.n) opened found))) (k * 2))) ∧ Hid (Below W4.heap.size W4 wr)) (fun _ i _ => st.n - (intOf i).toNat)
    case atStart => exact ⟨0, by omega, rfl, Lib.hid (World.ownsRow_nil _ _ _ _), Lib.hid (Below.refl _ _)⟩
    case round =>
      obtain ⟨k, hk, rfl, hown, hbw⟩ := hrel
      have hsw := hbw.out.size
      have HBW := Lib.hid (HB4.out.trans (hbw.out.mono (by omega)))
      have hA' : wr.cell? ⟨W.heap.size, 0, none⟩ = some (.slice pA st.n pc) ∧ wr.cell? ⟨W.heap.size, 1, none⟩ = some (.slice gA st.m gc) ∧ wr.cell? ⟨W.heap.size, 2, none⟩ = some (.int .i64 st.lots) := ⟨cell_same (hbw.out.block _ (by omega)) HA4.out.1, cell_same (hbw.out.block _ (by omega)) HA4.out.2.1, cell_same (hbw.out.block _ (by omega)) HA4.out.2.2⟩
      have HA5 := Lib.hid hA'
      by_cases hlt : k < st.n
      · obtain ⟨b, o, rfl, hbl, c0, c1, c2, c3⟩ := (HS.out.p.below (HBW.out.mono hB)) k hlt
        have hk0 : (0 : Int) ≤ (k : Int) := by omega
        have hkn : (k : Int) < (st.n : Int) := by omega
        have hrng := Lib.hid (HST.out.pk k hlt)
        have hmk := mk7
        obtain ⟨a0, a1, a2⟩ := hA'
        obtain ⟨fN, hfN⟩ : ∃ fN : Nat, (st.P k).f = fN := ⟨(st.P k).f.toNat, by have h := hrng.out; unfold Pk.rng at h; omega⟩
        have HFN := Lib.hid hfN
        have hc7' : fN + (st.P k).cnt ≤ 7 ∨ (st.P k).cnt = 0 := by
          have h1 := hrng.out
          unfold Pk.rng at h1
          unfold Pk.cnt Pk.hi
          omega
        have hpos : 0 < (st.P k).cnt := by have h := HST.out.sp k hlt; unfold Pk.cnt; omega
        have hc7 : fN + (st.P k).cnt ≤ 7 := by omega
        clear hc7' hpos hfN
        go_wp2_with fail
        refine (fouls_any (st.P k) hrng.out _).mono ?_
        rintro e w5 ⟨⟨fA, fc, rfl, hr, hfc, hfn⟩, hb⟩
        have hb5 : Below wr.heap.size wr w5 := (by repeat (first | (with_reducible exact Below.refl _ _) | (with_reducible refine Below.drew ?_) | (with_reducible refine below_drewN ?_ _) | ((with_reducible refine below_alloc ?_ ?_ _); · (first | exact Nat.le_refl _ | omega | (simp; done) | (simp; omega) | (simp at *; omega))) | ((with_reducible refine below_set ?_ ?_ _); · (first | exact Nat.le_refl _ | omega | (simp; done) | (simp; omega) | (simp at *; omega))) | ((with_reducible refine below_via (by with_reducible assumption) ?_ ?_); · (first | exact Nat.le_refl _ | omega | (simp; done) | (simp; omega) | (simp at *; omega)))))
        have hs5 := hb.size
        simp only [World.size_alloc] at hs5 hfn
        have HFR := Lib.hid hr
        have HFA := Lib.hid hfn
        have HN5 := Lib.hid (show Bool7 w5 wr.heap.size (fun _ => false) from (bool7_new wr).same (hb.block _ (by simp)))
        have HB5 := Lib.hid hb5
        obtain ⟨wo, rfl⟩ : ∃ wo, wo = wr := ⟨_, rfl⟩
        clear hb hb5 hr c0 c1 c2 c3 a0 a1 a2 hfn
        go_wp2_with fail
        go_loopw [42] (fun i wz => ∃ K : Nat, K ≤ (st.P k).cnt ∧ i = .int .i64 K ∧ Hid (Bool7 wz wo.heap.size (tellK fN (tellQ st X opened found k) K)) ∧ Hid (w5.grownBy wz (some wo.heap.size))) (fun i _ => (st.P k).cnt - (intOf i).toNat)
        case atStart => exact ⟨0, by omega, rfl, Lib.hid (HN5.out.congr (fun j _ => by simp [tellK]; omega)), Lib.hid (World.grownBy.refl _ _)⟩
        case round =>
          obtain ⟨K, hK, rfl, hz, hg⟩ := hrel
          have hsz := hg.out.size
          have hwy : Hid (Below W.heap.size W wr) := Lib.hid (HBW.out.trans (HB5.out.mono (by omega)) |>.trans (gb_below hg.out (by omega) (by omega)))
          by_cases hltK : K < (st.P k).cnt
          · obtain ⟨fb, fo, rfl, hfl, d0⟩ := HFR.out K hltK
            have hfb := HFA.out _ rfl
            have d0 := cell_same (hg.out.block fb hfl (by intro e; injection e with e; (try simp at hfb); omega)) d0
            have hK0 : (0 : Int) ≤ (K : Int) := by omega
            have hKn : (K : Int) < ((st.P k).cnt : Int) := by omega
            have et : ((st.P k).f + (K : Int)).toNat = fN + K := by rw [HFN.out]; omega
            have hF0 : 0 ≤ (st.P k).f + (K : Int) := by rw [HFN.out]; omega
            have hF7 : (st.P k).f + (K : Int) < 7 := by rw [HFN.out]; omega
            have hFh : Hid ((st.P k).f ≤ (st.P k).f + (K : Int) ∧ (st.P k).f + (K : Int) ≤ (st.P k).hi) := Lib.hid (by unfold Pk.cnt at hltK; omega)
            have HA6 := Lib.hid (show wr.cell? ⟨W.heap.size, 0, none⟩ = some (.slice (some ⟨b, o, none⟩) st.n pc) ∧ wr.cell? ⟨W.heap.size, 1, none⟩ = some (.slice gA st.m gc) ∧ wr.cell? ⟨W.heap.size, 2, none⟩ = some (.int .i64 st.lots) from
              ⟨cell_same (hg.out.block _ (by omega) (by intro e; injection e with e; omega)) (cell_same (HB5.out.block _ (by omega)) HA5.out.1), cell_same (hg.out.block _ (by omega) (by intro e; injection e with e; omega)) (cell_same (HB5.out.block _ (by omega)) HA5.out.2.1), cell_same (hg.out.block _ (by omega) (by intro e; injection e with e; omega)) (cell_same (HB5.out.block _ (by omega)) HA5.out.2.2)⟩)
            obtain ⟨a0, a1, a2⟩ := HA6.out
            have hsy := hwy.out.size
            have HT := Lib.hid (tr_tell HST.out HX.out hop.out hfo.out hlt hFh.out)
            have bd2 := St.size_bd HST.out (rng_in HST.out HX.out)
            have hop' := hop.out
            have hfo' := hfo.out
            go_wp2_with fail
            refine (truths_any st HST.out B (some ⟨b, o, none⟩) gA pc gc lA lc X k ((st.P k).f + (K : Int)) _ (HS.out.later (hwy.out.mono hB)) (HL.out.later hwy.out) HX.out).mono ?_
            rintro e w6 ⟨⟨b2, rfl, hbl2, hq⟩, hb6⟩
            have HQ6 := Lib.hid hq
            have HB6 := Lib.hid hb6
            have hs6 := hb6.size
            clear hq hb6 hbl2 a0 a1 a2 d0
            go_wp2_with fail
            refine (rsize_any lA st.n lc X _ (HL.out.later (hwy.out.trans (HB6.out.mono hsy))) (by omega) (fun k hk => by have := HX.out k hk; have := (HST.out.pk k hk).1; omega)).mono ?_
            rintro e w' ⟨rfl, rfl⟩
            rw [← bagOf_size n4]
            go_wp2_with fail
            refine (after_any b2 _ (bagOf X st.n).size opened found _ HQ6.out (by omega) (by omega) (by omega)).mono ?_
            rintro e w7 ⟨⟨b3, rfl, hq3⟩, hb7⟩
            have HQ7 := Lib.hid hq3
            have HB7 := Lib.hid (HB6.out.trans (hb7.mono hs6))
            have hs7 := hb7.size
            clear hb7 hq3
            go_wp2_with fail
            refine (rends_any (some ⟨b3, 0, none⟩) 25 25 _ _ HQ7.out.row (by decide)).mono ?_
            rintro e w8 ⟨rfl, hb8⟩
            have hs8 := hb8.size
            have HB8 := Lib.hid (HB7.out.trans (hb8.mono (by omega)))
            have HG8 := Lib.hid (gb_trans hg.out (grown_of_below wo.heap.size HB8.out))
            have HZ8 := Lib.hid (hz.out.same (HB8.out.block _ hz.out.lt))
            have t0 := HZ8.out.1 (fN + K) (by omega)
            have ft := HZ8.out.2 (fN + K)
            have hnew : ∀ v, v = tellQ st X opened found k ((st.P k).f + (K : Int)) → Hid (Bool7 (w8.setCell ⟨wo.heap.size, fN + K, none⟩ (.bool v)) wo.heap.size (tellK fN (tellQ st X opened found k) (K + 1))) := fun v hv => Lib.hid ((HZ8.out.set (fN + K) v).congr (fun j _ => by
              unfold tellK
              by_cases e : j = fN + K
              · subst e
                rw [if_pos rfl, hv, HFN.out, decide_eq_true (by omega), decide_eq_true (by omega)]
                simp
              · rw [if_neg e]
                have : (j < fN + (K + 1)) = (j < fN + K) := by apply propext; omega
                simp only [this]))
            have HNEW := Lib.hid hnew
            have HG9 : Hid (∀ v, w5.grownBy (w8.setCell ⟨wo.heap.size, fN + K, none⟩ (.bool v)) (some wo.heap.size)) := Lib.hid (fun v => gb_trans HG8.out (gb_set _ _ _ _))
            have HLK := Lib.hid hltK
            clear hnew hb8
            go_wp2_with fail
            go_roundw
            case rel => exact ⟨K + 1, HLK.out, by go_num, HNEW.out _ HT.out, HG9.out _⟩
            case measure => simp [intOf]; omega
          · have hK' : K = (st.P k).cnt := by omega
            have hge : ¬ (K : Int) < ((st.P k).cnt : Int) := by omega
            have HZ : Hid (Bool7 wr wo.heap.size (tellK fN (tellQ st X opened found k) (st.P k).cnt)) := Lib.hid (by rw [hK'] at hz; exact hz.out)
            have hET : eS ((7 : Nat) : Int) (tellK fN (tellQ st X opened found k) (st.P k).cnt) 7 = st.told (bagOf X st.n) (st.leftLo (bagOf X st.n) found) (st.leftHi (bagOf X st.n) opened found) k := eS_tell HFN.out hc7
            have HET := Lib.hid hET
            have hsz2 := hg.out.size
            have hv1 := hown.out.lt
            have hbW : Hid (Below wo.heap.size wo wr) := Lib.hid (HB5.out.trans (gb_below hg.out (by omega) (by omega)))
            clear hET
            go_wp2_with fail
            refine (rends_any (some ⟨wo.heap.size, 0, none⟩) 7 7 _ _ HZ.out.row (by decide)).mono ?_
            rintro e w6 ⟨rfl, hb6⟩
            rw [HET.out]
            have hs6 := hb6.size
            have HB6 := Lib.hid (hbW.out.trans (hb6.mono (by omega)))
            have HOWN6 := Lib.hid (owns_later hown.out HB6.out)
            clear hb6
            generalize hTT : st.told (bagOf X st.n) (st.leftLo (bagOf X st.n) found) (st.leftHi (bagOf X st.n) opened found) = TT at HOWN6 ⊢
            have HTT := Lib.hid hTT
            clear hTT
            go_wp2_with (at_builtin; refine wpList_append_own _ rfl (.tmp 63) (.tmp 66) 54 rfl W4.heap.size 50 i0 (.agg #[.int .i64 0, .int .i64 0]) 2 16 sps_under hi hz0 hz1 hz2 rfl (by decide) u12 k (numCells (spCell TT) (k * 2)) rfl (HOWN6.out.alloc _) ⟨w6.heap.size, 0, none⟩ 1 1 [.int .i64 (TT k).1, .int .i64 (TT k).2] rfl rfl ?c1 ?c2 ?c3 ?c4 ?c5 ?_)
            case c1 => exact new_cells (cs := [.int .i64 (TT k).1, .int .i64 (TT k).2])
            case c2 => intro u hu; simp only [List.mem_cons, List.not_mem_nil, or_false] at hu; rcases hu with rfl | rfl <;> rfl
            case c3 => unfold maxLen; omega
            case c4 => omega
            case c5 => simp; omega
            intro v' w10 hown' hgr _
            have hs10 := hgr.size
            simp only [World.size_alloc] at hs10
            have hb49 : Below W4.heap.size W4 w6 := hbw.out.trans (HB6.out.mono hbw.out.size)
            have hs49 := hb49.size
            have HB10 : Hid (Below W4.heap.size W4 w10) := Lib.hid ⟨hgr.os.trans hb49.os, hgr.tape.trans hb49.tape, hgr.output.trans hb49.output, by omega, fun i hi =>
              (hgr.block i (by simp; omega) (fun e => by have := (hv1 i e.symm).1; omega)).trans ((Below.heap_alloc _ _ _ (by omega)).trans (hb49.block i hi))⟩
            have HOWN10 := Lib.hid hown'
            clear hown' hgr hb49
            go_wp2_with fail
            go_roundw
            case rel => exact ⟨k + 1, by omega, by go_num, Lib.hid (by rw [HTT.out, spCells_succ]; exact HOWN10.out), HB10⟩
            case measure => simp [intOf]; omega
      · obtain rfl : k = st.n := by omega
        have hge : ¬ (st.n : Int) < (st.n : Int) := by omega
        obtain ⟨A, cc, rfl, hsp, hcc⟩ := SpRow.of_owns hown.out
        have HSP := Lib.hid hsp
        clear hsp hA'
        go_wp2_with fail
        go_ret2
        exact ⟨HBW.out, .inl ⟨HE.out, A, cc, rfl, HSP.out, hcc⟩⟩
  · have hnb : (st.sampErr ln X opened found != 0) = true := by simpa using h0
    have e1 : st.leftR ln X opened found = (0, 0, st.sampErr ln X opened found) := by unfold St.leftR; rw [if_pos (by simpa using h0)]
    rw [e1]
    have H0 := Lib.hid h0
    have hbo := HB1.out
    clear h0 e1
    go_wp2_with fail
    go_ret2
    exact ⟨(by repeat (first | (with_reducible exact Below.refl _ _) | (with_reducible refine Below.drew ?_) | (with_reducible refine below_drewN ?_ _) | ((with_reducible refine below_alloc ?_ ?_ _); · (first | exact Nat.le_refl _ | omega | (simp; done) | (simp; omega) | (simp at *; omega))) | ((with_reducible refine below_set ?_ ?_ _); · (first | exact Nat.le_refl _ | omega | (simp; done) | (simp; omega) | (simp at *; omega))) | ((with_reducible refine below_via (by with_reducible assumption) ?_ ?_); · (first | exact Nat.le_refl _ | omega | (simp; done) | (simp; omega) | (simp at *; omega))))), .inr ⟨H0.out, rfl⟩⟩
end Go.Proofs.Ytegmomappbehcaa
