/- The law LotStores, walked. -/
import Derived.Test.YtegmomappbehcaaLc
import Derived.Test.YtegmomappbehcaaTs
import Derived.Test.YtegmomappbehcaaTm
import Derived.Test.YtegmomappbehcaaCl
set_option linter.unusedSimpArgs false
set_option linter.unusedVariables false
namespace Go.Proofs.Ytegmomappbehcaa
open Go.RowKit Go.Shelf

theorem law_close0 {st : St} {B : Nat} {pA gA pA1 gA1 pA2 gA2 : Option Addr} {pc gc pc1 gc1 pc2 gc2 lop lot b1 b2 : Nat} {W w1 wp wt wX : World}
    (HS : StRow W B st pA pc gA gc) (HB1 : Below W.heap.size W w1) (h0 : W.heap.size < w1.heap.size) (hA : w1.cell? ⟨W.heap.size, 0, none⟩ = some (.slice pA st.n pc) ∧ w1.cell? ⟨W.heap.size, 1, none⟩ = some (.slice gA st.m gc) ∧ w1.cell? ⟨W.heap.size, 2, none⟩ = some (.int .i64 st.lots))
    (hP : Below w1.heap.size w1 wp) (hT : Below wp.heap.size wp wt)
    (hop : OwnPk wp lop pA1 st.n st.P) (hog : OwnGd wp lop gA1 st.m st.G) (hpc1 : st.n ≤ pc1) (hgc1 : st.m ≤ gc1) (htp : OwnPk wt lot pA2 st.n st.P) (htg : OwnGd wt lot gA2 st.m st.G) (hpc2 : st.n ≤ pc2) (hgc2 : st.m ≤ gc2)
    (hos : wX.os = wt.os) (htape : wX.tape = wt.tape) (hout : wX.output = wt.output) (hsz : wt.heap.size ≤ wX.heap.size)
    (hF : ∀ i, i < wt.heap.size → i ≠ b1 → i ≠ b2 → wX.heap[i]? = wt.heap[i]?)
    (k1 : w1.heap.size ≤ b1 ∧ (b1 < lop ∨ wp.heap.size ≤ b1) ∧ (b1 < lot ∨ wt.heap.size ≤ b1)) (k2 : w1.heap.size ≤ b2 ∧ (b2 < lop ∨ wp.heap.size ≤ b2) ∧ (b2 < lot ∨ wt.heap.size ≤ b2))
    (s1 : StAt wX b1 pA1 st.n pc1 gA1 st.m gc1 st.lots) (s2 : StAt wX b2 pA2 st.n pc2 gA2 st.m gc2 st.lots) :
    Hid (LawAt wX st W.heap.size b1 b2 pA gA pA1 gA1 pA2 gA2 pc gc pc1 gc1 pc2 gc2) ∧ Hid (Below W.heap.size W wX) := by
  have h := law_close (lA := none) (mA := none) (ln := 0) (X := fun _ => 0) (lom := wp.heap.size) HS (fun k hk => absurd hk (by omega)) HB1 h0 hA hP (Below.refl _ _) hT hop hog hpc1 hgc1 (fun k hk => absurd hk (by omega)) htp htg hpc2 hgc2 hos htape hout hsz hF ⟨k1.1, k1.2.1, by omega, k1.2.2⟩ ⟨k2.1, k2.2.1, by omega, k2.2.2⟩ s1 s2
  exact ⟨h.1, h.2.2.2⟩

/-- the store that an opening gives; an empty one with an error -/
def St.openSt (st : St) (p q f : Int) : St := if st.openErr p q f = 0 then st.more p.toNat q f else ⟨0, st.P, 0, st.G, 0⟩
theorem OpenPost.one {st : St} {p q f : Int} {lo : Nat} {W W' : World} {e : Ending} (h : OpenPost st p q f lo W e W') : Below W.heap.size W W' ∧ ∃ pA pc gA gc, e = .returned (.tuple #[stV pA (st.openSt p q f).n pc gA (st.openSt p q f).m gc (st.openSt p q f).lots, .int .i64 (st.openErr p q f)]) ∧
    OwnPk W' lo pA (st.openSt p q f).n (st.openSt p q f).P ∧ OwnGd W' lo gA (st.openSt p q f).m (st.openSt p q f).G ∧ (st.openSt p q f).n ≤ pc ∧ (st.openSt p q f).m ≤ gc := by
  refine ⟨h.1, ?_⟩
  rcases h.2 with ⟨h0, pA, pc, gA, gc, rfl, h1, h2, h3, h4⟩ | ⟨h0, rfl⟩
  · have e : st.openSt p q f = st.more p.toNat q f := by unfold St.openSt; rw [if_pos h0]
    rw [e, h0]
    exact ⟨pA, pc, gA, gc, rfl, h1, h2, h3, h4⟩
  · have e : st.openSt p q f = ⟨0, st.P, 0, st.G, 0⟩ := by unfold St.openSt; rw [if_neg h0]
    rw [e]
    exact ⟨none, 0, none, 0, rfl, fun k hk => absurd hk (by show ¬ k < 0; omega), fun k hk => absurd hk (by show ¬ k < 0; omega), Nat.le_refl _, Nat.le_refl _⟩
theorem St.openSt_bd {st : St} (hn : st.n ≤ 6) (hm : st.m ≤ 6) (p q f : Int) : (st.openSt p q f).n ≤ 6 ∧ (st.openSt p q f).m ≤ 6 := by
  unfold St.openSt
  split
  · exact ⟨hn, hm⟩
  · exact ⟨by show 0 ≤ 6; omega, by show 0 ≤ 6; omega⟩
theorem OwnPk.clr {w : World} {lo n : Nat} {A : Option Addr} {P : Nat → Pk} (h : OwnPk w lo A n P) : ∀ k, k < n → ∃ b, A = some ⟨b, 0, none⟩ ∧ lo ≤ b ∧ ∀ j, j < n * 4 → (w.cell? ⟨b, j, none⟩).isSome = true ∧ w.frozen? ⟨b, j, none⟩ = false := fun k hk => by
  obtain ⟨b, hA, hl, _, _, _, _, hf⟩ := h k hk
  refine ⟨b, hA, hl, fun j hj => ⟨?_, hf j⟩⟩
  obtain ⟨b', hA', _, c0, c1, c2, c3, _⟩ := h (j / 4) (by omega)
  rw [hA] at hA'
  injection hA' with hA'
  injection hA' with hA'
  subst hA'
  have : j = j / 4 * 4 + j % 4 := by omega
  have h4 : j % 4 = 0 ∨ j % 4 = 1 ∨ j % 4 = 2 ∨ j % 4 = 3 := by omega
  rcases h4 with h4 | h4 | h4 | h4 <;> rw [h4] at this <;> rw [this]
  · exact has_of c0
  · exact has_of c1
  · exact has_of c2
  · exact has_of c3
theorem OwnGd.clr {w : World} {lo n : Nat} {A : Option Addr} {P : Nat → Gd} (h : OwnGd w lo A n P) : ∀ k, k < n → ∃ b, A = some ⟨b, 0, none⟩ ∧ lo ≤ b ∧ ∀ j, j < n * 2 → (w.cell? ⟨b, j, none⟩).isSome = true ∧ w.frozen? ⟨b, j, none⟩ = false := fun k hk => by
  obtain ⟨b, hA, hl, _, _, hf⟩ := h k hk
  refine ⟨b, hA, hl, fun j hj => ⟨?_, hf j⟩⟩
  obtain ⟨b', hA', _, c0, c1, _⟩ := h (j / 2) (by omega)
  rw [hA] at hA'
  injection hA' with hA'
  injection hA' with hA'
  subst hA'
  have : j = j / 2 * 2 + j % 2 := by omega
  have h4 : j % 2 = 0 ∨ j % 2 = 1 := by omega
  rcases h4 with h4 | h4 <;> rw [h4] at this <;> rw [this]
  · exact has_of c0
  · exact has_of c1
/-- cells that can be cleared still can after another row was -/
theorem clr_later {w w' : World} {lo n s : Nat} {A : Option Addr} (h : ∀ k, k < n → ∃ b, A = some ⟨b, 0, none⟩ ∧ lo ≤ b ∧ ∀ j, j < n * s → (w.cell? ⟨b, j, none⟩).isSome = true ∧ w.frozen? ⟨b, j, none⟩ = false) (hc : ∀ x, (w.cell? x).isSome = true → (w'.cell? x).isSome = true) (hf : ∀ x, w'.frozen? x = w.frozen? x) :
    ∀ k, k < n → ∃ b, A = some ⟨b, 0, none⟩ ∧ lo ≤ b ∧ ∀ j, j < n * s → (w'.cell? ⟨b, j, none⟩).isSome = true ∧ w'.frozen? ⟨b, j, none⟩ = false := fun k hk => by
  obtain ⟨b, hA, hl, hj⟩ := h k hk
  exact ⟨b, hA, hl, fun j h => ⟨hc _ (hj j h).1, (hf _).trans (hj j h).2⟩⟩
theorem infoPkL : (Try.prog.info? 75).map (fun i => (i.zero, i.size, i.bytes)) = some (some (.agg #[.int .i64 0, .int .i64 0, .int .i64 0, .int .i64 0]), 4, 32) := by kernel_rfl
theorem infoGdL : (Try.prog.info? 82).map (fun i => (i.zero, i.size, i.bytes)) = some (some (.agg #[.int .i64 0, .int .i64 0]), 2, 16) := by kernel_rfl
theorem pksL_under : Try.prog.underlying 22 = some (.slice 75) := by kernel_rfl
theorem gdsL_under : Try.prog.underlying 23 = some (.slice 82) := by kernel_rfl

set_option maxRecDepth 100000 in
set_option maxHeartbeats 0 in
theorem stores_in (st : St) (B : Nat) (pA gA : Option Addr) (pc gc : Nat) (p q f : Int) (W : World) (hs : StRow W B st pA pc gA gc) (h1 : st.n ≤ 6) (h2 : st.m ≤ 6) :
    Calls Try.prog 10 #[stV pA st.n pc gA st.m gc st.lots, .int .i64 p, .int .i64 q, .int .i64 f] W fun e W' => e = .returned (.bool true) ∧ Below W.heap.size W W' := by
  have HS := Lib.hid hs
  have hB := hs.lt
  clear hs
  have hlong : (decide (6 < st.n) || decide (6 < st.m)) = false := by simp; omega
  go_enter Try.func10, Try.ntmps10
  go_wp2_with fail
  refine (long_any pA gA st.n pc st.m gc st.lots _).mono ?_
  rintro e w1 ⟨rfl, hb1⟩
  rw [hlong]
  have HB1 := Lib.hid (show Below W.heap.size W w1 from (by repeat (first | (with_reducible exact Below.refl _ _) | (with_reducible refine Below.drew ?_) | (with_reducible refine below_drewN ?_ _) | ((with_reducible refine below_alloc ?_ ?_ _); · (first | exact Nat.le_refl _ | omega | (simp; done) | (simp; omega) | (simp at *; omega))) | ((with_reducible refine below_set ?_ ?_ _); · (first | exact Nat.le_refl _ | omega | (simp; done) | (simp; omega) | (simp at *; omega))) | ((with_reducible refine below_via (by with_reducible assumption) ?_ ?_); · (first | exact Nat.le_refl _ | omega | (simp; done) | (simp; omega) | (simp at *; omega))))))
  have hs1 := hb1.size
  simp only [World.size_alloc] at hs1
  have a0 : w1.cell? ⟨W.heap.size, 0, none⟩ = some (.slice pA st.n pc) := cell_below_of hb1 (by (repeat' refine And.intro ?_ ?_) <;> (repeat (first | (with_reducible assumption) | (simp; done) | (with_reducible refine cell_drew_of ?_) | (with_reducible refine cell_drewN_of ?_) | (with_reducible refine cell_below_of (by with_reducible assumption) ?_) | ((with_reducible refine cell_new_of ?_ ?_) <;> (first | (with_reducible rfl) | (simp; done))) | ((with_reducible refine fro_new_of ?_) <;> (first | (with_reducible rfl) | (simp; done))) | (with_reducible refine cell_alloc_of _ ?_) | (with_reducible refine cell_set_of _ (by (first | exact Nat.le_refl _ | omega | (simp; done) | (simp; omega))) ?_) | (with_reducible refine fro_drew_of ?_) | (with_reducible refine fro_drewN_of ?_) | (with_reducible refine fro_below_of (by with_reducible assumption) (by (first | exact Nat.le_refl _ | omega | (simp; done) | (simp; omega))) ?_) | (with_reducible refine fro_alloc_of _ (by (first | exact Nat.le_refl _ | omega | (simp; done) | (simp; omega))) ?_) | (with_reducible refine fro_set_of _ ?_))))
  have a1 : w1.cell? ⟨W.heap.size, 1, none⟩ = some (.slice gA st.m gc) := cell_below_of hb1 (by (repeat' refine And.intro ?_ ?_) <;> (repeat (first | (with_reducible assumption) | (simp; done) | (with_reducible refine cell_drew_of ?_) | (with_reducible refine cell_drewN_of ?_) | (with_reducible refine cell_below_of (by with_reducible assumption) ?_) | ((with_reducible refine cell_new_of ?_ ?_) <;> (first | (with_reducible rfl) | (simp; done))) | ((with_reducible refine fro_new_of ?_) <;> (first | (with_reducible rfl) | (simp; done))) | (with_reducible refine cell_alloc_of _ ?_) | (with_reducible refine cell_set_of _ (by (first | exact Nat.le_refl _ | omega | (simp; done) | (simp; omega))) ?_) | (with_reducible refine fro_drew_of ?_) | (with_reducible refine fro_drewN_of ?_) | (with_reducible refine fro_below_of (by with_reducible assumption) (by (first | exact Nat.le_refl _ | omega | (simp; done) | (simp; omega))) ?_) | (with_reducible refine fro_alloc_of _ (by (first | exact Nat.le_refl _ | omega | (simp; done) | (simp; omega))) ?_) | (with_reducible refine fro_set_of _ ?_))))
  have a2 : w1.cell? ⟨W.heap.size, 2, none⟩ = some (.int .i64 st.lots) := cell_below_of hb1 (by (repeat' refine And.intro ?_ ?_) <;> (repeat (first | (with_reducible assumption) | (simp; done) | (with_reducible refine cell_drew_of ?_) | (with_reducible refine cell_drewN_of ?_) | (with_reducible refine cell_below_of (by with_reducible assumption) ?_) | ((with_reducible refine cell_new_of ?_ ?_) <;> (first | (with_reducible rfl) | (simp; done))) | ((with_reducible refine fro_new_of ?_) <;> (first | (with_reducible rfl) | (simp; done))) | (with_reducible refine cell_alloc_of _ ?_) | (with_reducible refine cell_set_of _ (by (first | exact Nat.le_refl _ | omega | (simp; done) | (simp; omega))) ?_) | (with_reducible refine fro_drew_of ?_) | (with_reducible refine fro_drewN_of ?_) | (with_reducible refine fro_below_of (by with_reducible assumption) (by (first | exact Nat.le_refl _ | omega | (simp; done) | (simp; omega))) ?_) | (with_reducible refine fro_alloc_of _ (by (first | exact Nat.le_refl _ | omega | (simp; done) | (simp; omega))) ?_) | (with_reducible refine fro_set_of _ ?_))))
  have HA := Lib.hid (show _ ∧ _ ∧ _ from ⟨a0, a1, a2⟩)
  clear hb1
  go_upto_region 3 with fail
  go_cut [9, 10] (fun x z wx => ∃ b1 b2 pA1 gA1 pA2 gA2 pc1 gc1 pc2 gc2, x = .pointer (some ⟨b1, 0, none⟩) ∧ z = .pointer (some ⟨b2, 0, none⟩) ∧
    Hid (LawAt wx st W.heap.size b1 b2 pA gA pA1 gA1 pA2 gA2 pc gc pc1 gc1 pc2 gc2) ∧ Hid (Below W.heap.size W wx))
  case first =>
    go_region_held3 (fun w' => w'.cell? ⟨W.heap.size, 0, none⟩ = some (.slice pA st.n pc) ∧ w'.cell? ⟨W.heap.size, 1, none⟩ = some (.slice gA st.m gc) ∧ w'.cell? ⟨W.heap.size, 2, none⟩ = some (.int .i64 st.lots)) ((go_split_ands; (repeat' refine And.intro ?_ ?_) <;> (repeat (first | (with_reducible assumption) | (simp; done) | (with_reducible refine cell_drew_of ?_) | (with_reducible refine cell_drewN_of ?_) | (with_reducible refine cell_below_of (by with_reducible assumption) ?_) | ((with_reducible refine cell_new_of ?_ ?_) <;> (first | (with_reducible rfl) | (simp; done))) | ((with_reducible refine fro_new_of ?_) <;> (first | (with_reducible rfl) | (simp; done))) | (with_reducible refine cell_alloc_of _ ?_) | (with_reducible refine cell_set_of _ (by (first | exact Nat.le_refl _ | omega | (simp; done) | (simp; omega))) ?_) | (with_reducible refine fro_drew_of ?_) | (with_reducible refine fro_drewN_of ?_) | (with_reducible refine fro_below_of (by with_reducible assumption) (by (first | exact Nat.le_refl _ | omega | (simp; done) | (simp; omega))) ?_) | (with_reducible refine fro_alloc_of _ (by (first | exact Nat.le_refl _ | omega | (simp; done) | (simp; omega))) ?_) | (with_reducible refine fro_set_of _ ?_))))) (first | (go_at_call 18; refine (own_any st B pA gA pc gc _ (HS.out.later ((show Below W.heap.size W _ from HB1.out.trans ((show Below w1.heap.size w1 _ from (by repeat (first | (with_reducible exact Below.refl _ _) | (with_reducible refine Below.drew ?_) | (with_reducible refine below_drewN ?_ _) | ((with_reducible refine below_alloc ?_ ?_ _); · (first | exact Nat.le_refl _ | omega | (simp; done) | (simp; omega) | (simp at *; omega))) | ((with_reducible refine below_set ?_ ?_ _); · (first | exact Nat.le_refl _ | omega | (simp; done) | (simp; omega) | (simp at *; omega))) | ((with_reducible refine below_via (by with_reducible assumption) ?_ ?_); · (first | exact Nat.le_refl _ | omega | (simp; done) | (simp; omega) | (simp at *; omega)))))).mono (by omega))).mono hB))).mono ?_; rintro e wp ⟨hbp, pA1, pc1, gA1, gc1, rfl, hop, hog, hpc1, hgc1, _⟩; have hhP := Lib.hid (show Below w1.heap.size w1 wp from (by repeat (first | (with_reducible exact Below.refl _ _) | (with_reducible assumption) | (with_reducible refine Below.drew ?_) | ((with_reducible refine below_alloc ?_ ?_ _); (· (first | exact Nat.le_refl _ | omega | (dsimp only; omega) | (simp only [World.size_alloc, World.size_drew, World.heap_drewN]; omega) | (simp; omega)))) | ((with_reducible refine below_set ?_ ?_ _); (· (first | exact Nat.le_refl _ | omega | (dsimp only; omega) | (simp only [World.size_alloc, World.size_drew, World.heap_drewN]; omega) | (simp; omega)))) | ((with_reducible refine below_via (by with_reducible assumption) ?_ ?_); (· (first | exact Nat.le_refl _ | omega | (dsimp only; omega) | (simp only [World.size_alloc, World.size_drew, World.heap_drewN]; omega) | (simp; omega))))))); have hzp := hbp.size; (try simp only [World.size_drew, World.heap_drewN, World.size_alloc] at hzp);  (try (refine lay_in (A := ((wp.cell? ⟨w1.heap.size, 0, none⟩ = some (.slice none 0 0) ∧ wp.cell? ⟨w1.heap.size, 1, none⟩ = some (.slice none 0 0) ∧ wp.cell? ⟨w1.heap.size, 2, none⟩ = some (.int .i64 0)) ∧ wp.frozen? ⟨w1.heap.size, 0, none⟩ = false ∧ wp.frozen? ⟨w1.heap.size, 1, none⟩ = false ∧ wp.frozen? ⟨w1.heap.size, 2, none⟩ = false)) ?_ ?_; (· ((go_split_ands; (repeat' refine And.intro ?_ ?_) <;> (repeat (first | (with_reducible assumption) | (simp; done) | (with_reducible refine cell_drew_of ?_) | (with_reducible refine cell_drewN_of ?_) | (with_reducible refine cell_below_of (by with_reducible assumption) ?_) | ((with_reducible refine cell_new_of ?_ ?_) <;> (first | (with_reducible rfl) | (simp; done))) | ((with_reducible refine fro_new_of ?_) <;> (first | (with_reducible rfl) | (simp; done))) | (with_reducible refine cell_alloc_of _ ?_) | (with_reducible refine cell_set_of _ (by (first | exact Nat.le_refl _ | omega | (simp; done) | (simp; omega))) ?_) | (with_reducible refine fro_drew_of ?_) | (with_reducible refine fro_drewN_of ?_) | (with_reducible refine fro_below_of (by with_reducible assumption) (by (first | exact Nat.le_refl _ | omega | (simp; done) | (simp; omega))) ?_) | (with_reducible refine fro_alloc_of _ (by (first | exact Nat.le_refl _ | omega | (simp; done) | (simp; omega))) ?_) | (with_reducible refine fro_set_of _ ?_)))))); rintro ⟨⟨_, _, _⟩, _, _, _⟩)); (try (refine lay_in (A := ((wp.cell? ⟨w1.heap.size + 1, 0, none⟩ = some (.slice none 0 0) ∧ wp.cell? ⟨w1.heap.size + 1, 1, none⟩ = some (.slice none 0 0) ∧ wp.cell? ⟨w1.heap.size + 1, 2, none⟩ = some (.int .i64 0)) ∧ wp.frozen? ⟨w1.heap.size + 1, 0, none⟩ = false ∧ wp.frozen? ⟨w1.heap.size + 1, 1, none⟩ = false ∧ wp.frozen? ⟨w1.heap.size + 1, 2, none⟩ = false)) ?_ ?_; (· ((go_split_ands; (repeat' refine And.intro ?_ ?_) <;> (repeat (first | (with_reducible assumption) | (simp; done) | (with_reducible refine cell_drew_of ?_) | (with_reducible refine cell_drewN_of ?_) | (with_reducible refine cell_below_of (by with_reducible assumption) ?_) | ((with_reducible refine cell_new_of ?_ ?_) <;> (first | (with_reducible rfl) | (simp; done))) | ((with_reducible refine fro_new_of ?_) <;> (first | (with_reducible rfl) | (simp; done))) | (with_reducible refine cell_alloc_of _ ?_) | (with_reducible refine cell_set_of _ (by (first | exact Nat.le_refl _ | omega | (simp; done) | (simp; omega))) ?_) | (with_reducible refine fro_drew_of ?_) | (with_reducible refine fro_drewN_of ?_) | (with_reducible refine fro_below_of (by with_reducible assumption) (by (first | exact Nat.le_refl _ | omega | (simp; done) | (simp; omega))) ?_) | (with_reducible refine fro_alloc_of _ (by (first | exact Nat.le_refl _ | omega | (simp; done) | (simp; omega))) ?_) | (with_reducible refine fro_set_of _ ?_)))))); rintro ⟨⟨_, _, _⟩, _, _, _⟩))) | (go_at_call 20; refine (theirs_any st B pA gA pc gc _ (HS.out.later ((show Below W.heap.size W _ from HB1.out.trans ((show Below w1.heap.size w1 _ from (by repeat (first | (with_reducible exact Below.refl _ _) | (with_reducible refine Below.drew ?_) | (with_reducible refine below_drewN ?_ _) | ((with_reducible refine below_alloc ?_ ?_ _); · (first | exact Nat.le_refl _ | omega | (simp; done) | (simp; omega) | (simp at *; omega))) | ((with_reducible refine below_set ?_ ?_ _); · (first | exact Nat.le_refl _ | omega | (simp; done) | (simp; omega) | (simp at *; omega))) | ((with_reducible refine below_via (by with_reducible assumption) ?_ ?_); · (first | exact Nat.le_refl _ | omega | (simp; done) | (simp; omega) | (simp at *; omega)))))).mono (by omega))).mono hB))).mono ?_; rintro e wt ⟨hbt, pA2, pc2, gA2, gc2, rfl, htp, htg, hpc2, hgc2⟩; have hhT := Lib.hid (show Below wp.heap.size wp wt from (by repeat (first | (with_reducible exact Below.refl _ _) | (with_reducible assumption) | (with_reducible refine Below.drew ?_) | ((with_reducible refine below_alloc ?_ ?_ _); (· (first | exact Nat.le_refl _ | omega | (dsimp only; omega) | (simp only [World.size_alloc, World.size_drew, World.heap_drewN]; omega) | (simp; omega)))) | ((with_reducible refine below_set ?_ ?_ _); (· (first | exact Nat.le_refl _ | omega | (dsimp only; omega) | (simp only [World.size_alloc, World.size_drew, World.heap_drewN]; omega) | (simp; omega)))) | ((with_reducible refine below_via (by with_reducible assumption) ?_ ?_); (· (first | exact Nat.le_refl _ | omega | (dsimp only; omega) | (simp only [World.size_alloc, World.size_drew, World.heap_drewN]; omega) | (simp; omega))))))); have hzt := hbt.size; (try simp only [World.size_drew, World.heap_drewN, World.size_alloc] at hzt);  (try (refine lay_in (A := ((wt.cell? ⟨w1.heap.size, 0, none⟩ = some (.slice none 0 0) ∧ wt.cell? ⟨w1.heap.size, 1, none⟩ = some (.slice none 0 0) ∧ wt.cell? ⟨w1.heap.size, 2, none⟩ = some (.int .i64 0)) ∧ wt.frozen? ⟨w1.heap.size, 0, none⟩ = false ∧ wt.frozen? ⟨w1.heap.size, 1, none⟩ = false ∧ wt.frozen? ⟨w1.heap.size, 2, none⟩ = false)) ?_ ?_; (· ((go_split_ands; (repeat' refine And.intro ?_ ?_) <;> (repeat (first | (with_reducible assumption) | (simp; done) | (with_reducible refine cell_drew_of ?_) | (with_reducible refine cell_drewN_of ?_) | (with_reducible refine cell_below_of (by with_reducible assumption) ?_) | ((with_reducible refine cell_new_of ?_ ?_) <;> (first | (with_reducible rfl) | (simp; done))) | ((with_reducible refine fro_new_of ?_) <;> (first | (with_reducible rfl) | (simp; done))) | (with_reducible refine cell_alloc_of _ ?_) | (with_reducible refine cell_set_of _ (by (first | exact Nat.le_refl _ | omega | (simp; done) | (simp; omega))) ?_) | (with_reducible refine fro_drew_of ?_) | (with_reducible refine fro_drewN_of ?_) | (with_reducible refine fro_below_of (by with_reducible assumption) (by (first | exact Nat.le_refl _ | omega | (simp; done) | (simp; omega))) ?_) | (with_reducible refine fro_alloc_of _ (by (first | exact Nat.le_refl _ | omega | (simp; done) | (simp; omega))) ?_) | (with_reducible refine fro_set_of _ ?_)))))); rintro ⟨⟨_, _, _⟩, _, _, _⟩)); (try (refine lay_in (A := ((wt.cell? ⟨w1.heap.size + 1, 0, none⟩ = some (.slice none 0 0) ∧ wt.cell? ⟨w1.heap.size + 1, 1, none⟩ = some (.slice none 0 0) ∧ wt.cell? ⟨w1.heap.size + 1, 2, none⟩ = some (.int .i64 0)) ∧ wt.frozen? ⟨w1.heap.size + 1, 0, none⟩ = false ∧ wt.frozen? ⟨w1.heap.size + 1, 1, none⟩ = false ∧ wt.frozen? ⟨w1.heap.size + 1, 2, none⟩ = false)) ?_ ?_; (· ((go_split_ands; (repeat' refine And.intro ?_ ?_) <;> (repeat (first | (with_reducible assumption) | (simp; done) | (with_reducible refine cell_drew_of ?_) | (with_reducible refine cell_drewN_of ?_) | (with_reducible refine cell_below_of (by with_reducible assumption) ?_) | ((with_reducible refine cell_new_of ?_ ?_) <;> (first | (with_reducible rfl) | (simp; done))) | ((with_reducible refine fro_new_of ?_) <;> (first | (with_reducible rfl) | (simp; done))) | (with_reducible refine cell_alloc_of _ ?_) | (with_reducible refine cell_set_of _ (by (first | exact Nat.le_refl _ | omega | (simp; done) | (simp; omega))) ?_) | (with_reducible refine fro_drew_of ?_) | (with_reducible refine fro_drewN_of ?_) | (with_reducible refine fro_below_of (by with_reducible assumption) (by (first | exact Nat.le_refl _ | omega | (simp; done) | (simp; omega))) ?_) | (with_reducible refine fro_alloc_of _ (by (first | exact Nat.le_refl _ | omega | (simp; done) | (simp; omega))) ?_) | (with_reducible refine fro_set_of _ ?_)))))); rintro ⟨⟨_, _, _⟩, _, _, _⟩)); (try (refine lay_in (A := ((wt.cell? ⟨wp.heap.size, 0, none⟩ = some (.slice none 0 0) ∧ wt.cell? ⟨wp.heap.size, 1, none⟩ = some (.slice none 0 0) ∧ wt.cell? ⟨wp.heap.size, 2, none⟩ = some (.int .i64 0)) ∧ wt.frozen? ⟨wp.heap.size, 0, none⟩ = false ∧ wt.frozen? ⟨wp.heap.size, 1, none⟩ = false ∧ wt.frozen? ⟨wp.heap.size, 2, none⟩ = false)) ?_ ?_; (· ((go_split_ands; (repeat' refine And.intro ?_ ?_) <;> (repeat (first | (with_reducible assumption) | (simp; done) | (with_reducible refine cell_drew_of ?_) | (with_reducible refine cell_drewN_of ?_) | (with_reducible refine cell_below_of (by with_reducible assumption) ?_) | ((with_reducible refine cell_new_of ?_ ?_) <;> (first | (with_reducible rfl) | (simp; done))) | ((with_reducible refine fro_new_of ?_) <;> (first | (with_reducible rfl) | (simp; done))) | (with_reducible refine cell_alloc_of _ ?_) | (with_reducible refine cell_set_of _ (by (first | exact Nat.le_refl _ | omega | (simp; done) | (simp; omega))) ?_) | (with_reducible refine fro_drew_of ?_) | (with_reducible refine fro_drewN_of ?_) | (with_reducible refine fro_below_of (by with_reducible assumption) (by (first | exact Nat.le_refl _ | omega | (simp; done) | (simp; omega))) ?_) | (with_reducible refine fro_alloc_of _ (by (first | exact Nat.le_refl _ | omega | (simp; done) | (simp; omega))) ?_) | (with_reducible refine fro_set_of _ ?_)))))); rintro ⟨⟨_, _, _⟩, _, _, _⟩)); (try (refine lay_in (A := ((wt.cell? ⟨wp.heap.size + 1, 0, none⟩ = some (.slice none 0 0) ∧ wt.cell? ⟨wp.heap.size + 1, 1, none⟩ = some (.slice none 0 0) ∧ wt.cell? ⟨wp.heap.size + 1, 2, none⟩ = some (.int .i64 0)) ∧ wt.frozen? ⟨wp.heap.size + 1, 0, none⟩ = false ∧ wt.frozen? ⟨wp.heap.size + 1, 1, none⟩ = false ∧ wt.frozen? ⟨wp.heap.size + 1, 2, none⟩ = false)) ?_ ?_; (· ((go_split_ands; (repeat' refine And.intro ?_ ?_) <;> (repeat (first | (with_reducible assumption) | (simp; done) | (with_reducible refine cell_drew_of ?_) | (with_reducible refine cell_drewN_of ?_) | (with_reducible refine cell_below_of (by with_reducible assumption) ?_) | ((with_reducible refine cell_new_of ?_ ?_) <;> (first | (with_reducible rfl) | (simp; done))) | ((with_reducible refine fro_new_of ?_) <;> (first | (with_reducible rfl) | (simp; done))) | (with_reducible refine cell_alloc_of _ ?_) | (with_reducible refine cell_set_of _ (by (first | exact Nat.le_refl _ | omega | (simp; done) | (simp; omega))) ?_) | (with_reducible refine fro_drew_of ?_) | (with_reducible refine fro_drewN_of ?_) | (with_reducible refine fro_below_of (by with_reducible assumption) (by (first | exact Nat.le_refl _ | omega | (simp; done) | (simp; omega))) ?_) | (with_reducible refine fro_alloc_of _ (by (first | exact Nat.le_refl _ | omega | (simp; done) | (simp; omega))) ?_) | (with_reducible refine fro_set_of _ ?_)))))); rintro ⟨⟨_, _, _⟩, _, _, _⟩))))
    all_goals
      go_wp2_with fail
      go_meet
      refine ⟨_, _, pA1, gA1, pA2, gA2, pc1, gc1, pc2, gc2, rfl, rfl, ?_⟩
      refine law_close0 HS.out HB1.out (by omega) HA.out hhP.out hhT.out hop hog hpc1 hgc1 htp htg hpc2 hgc2 ?os ?tp ?ou ?z ?f ?k1 ?k2 ?s1 ?s2
      case os => simp only [setCell_os, alloc_os]
      case tp => simp only [setCell_tape, alloc_tape]
      case ou => simp only [setCell_output, alloc_output]
      case z => (try simp only [setCell_size, World.size_alloc]) <;> omega
      case f => intro i hi h1 h2; repeat (first | (with_reducible rfl) | ((with_reducible refine Eq.trans (set_heap _ ?_) ?_); (· first | exact h1 | exact h2 | (dsimp only; omega))) | ((with_reducible refine Eq.trans (Below.heap_alloc _ _ _ ?_) ?_); (· first | omega | (simp; omega))))
      case k1 => (try simp only [World.size_alloc, World.size_drew]) <;> omega
      case k2 => (try simp only [World.size_alloc, World.size_drew]) <;> omega
      case s1 => exact (by (repeat' refine And.intro ?_ ?_) <;> (repeat (first | (with_reducible assumption) | (with_reducible refine cell_set_is ?_) | (with_reducible refine has_set ?_) | (with_reducible exact has_of (by with_reducible assumption)) | ((with_reducible refine has_new ?_ ?_) <;> (first | (with_reducible rfl) | (simp; done))) | (with_reducible refine has_alloc ?_) | (with_reducible refine cell_set_off (by decide) ?_) | (with_reducible refine cell_drew_of ?_) | (with_reducible refine cell_below_of (by with_reducible assumption) ?_) | ((with_reducible refine cell_new_of ?_ ?_) <;> (first | (with_reducible rfl) | (simp; done))) | (with_reducible refine cell_alloc_of _ ?_) | (with_reducible refine cell_set_of _ (by (first | exact Nat.le_refl _ | omega | (dsimp only; omega) | (simp only [World.size_alloc, World.size_drew, World.heap_drewN]; omega) | (simp; omega))) ?_))))
      case s2 => exact (by (repeat' refine And.intro ?_ ?_) <;> (repeat (first | (with_reducible assumption) | (with_reducible refine cell_set_is ?_) | (with_reducible refine has_set ?_) | (with_reducible exact has_of (by with_reducible assumption)) | ((with_reducible refine has_new ?_ ?_) <;> (first | (with_reducible rfl) | (simp; done))) | (with_reducible refine has_alloc ?_) | (with_reducible refine cell_set_off (by decide) ?_) | (with_reducible refine cell_drew_of ?_) | (with_reducible refine cell_below_of (by with_reducible assumption) ?_) | ((with_reducible refine cell_new_of ?_ ?_) <;> (first | (with_reducible rfl) | (simp; done))) | (with_reducible refine cell_alloc_of _ ?_) | (with_reducible refine cell_set_of _ (by (first | exact Nat.le_refl _ | omega | (dsimp only; omega) | (simp only [World.size_alloc, World.size_drew, World.heap_drewN]; omega) | (simp; omega))) ?_))))
  case rest =>
    obtain ⟨b1, b2, pA1, gA1, pA2, gA2, pc1, gc1, pc2, gc2, rfl, rfl, HQ, HB2⟩ := hcut
    clear a0 a1 a2
    have hk0 : (st.check != st.check) = false := by simp
    obtain ⟨o0, o1, o2⟩ := HQ.out.s1
    obtain ⟨t0, t1, t2⟩ := HQ.out.s2
    go_wp2_with fail
    refine region_qbw (by kernel_rfl) (by kernel_rfl) ?_
    have x0 := cell_regrown o0
    have x1 := cell_regrown o1
    have x2 := cell_regrown o2
    have y0 := cell_regrown t0
    have y1 := cell_regrown t1
    have y2 := cell_regrown t2
    clear o0 o1 o2 t0 t1 t2
    repeat (first | go_big_quiet_step ((first | (go_at_call 53; exact Calls.regrown_of (check_any st pA1 gA1 pc1 gc1 _ (HQ.out.r1.later2 (below_regrown _ _ _)).p (HQ.out.r1.later2 (below_regrown _ _ _)).g (by omega) (by omega) HQ.out.r1.pc HQ.out.r1.gc)) | (go_at_call 54; exact Calls.regrown_of (rcheck_any st _ pA2 gA2 pc2 gc2 _ (HQ.out.r2.later2 (below_regrown _ _ _)))))) | quiet_step ((first | (go_at_call 53; exact Calls.regrown_of (check_any st pA1 gA1 pc1 gc1 _ (HQ.out.r1.later2 (below_regrown _ _ _)).p (HQ.out.r1.later2 (below_regrown _ _ _)).g (by omega) (by omega) HQ.out.r1.pc HQ.out.r1.gc)) | (go_at_call 54; exact Calls.regrown_of (rcheck_any st _ pA2 gA2 pc2 gc2 _ (HQ.out.r2.later2 (below_regrown _ _ _)))))))
    refine wpQuiet_nil ?_; intro wq hbq
    have HQ3 := Lib.hid (HQ.out.later hbq)
    have HB3 := Lib.hid (HB2.out.trans (hbq.mono HB2.out.size))
    clear hbq x0 x1 x2 y0 y1 y2 HQ HB2
    (try rw [hk0])
    obtain ⟨o0, o1, o2⟩ := HQ3.out.s1
    go_wp2_with fail
    refine (Foul_any st _ pA1 gA1 pc1 gc1 p _ HQ3.out.r1).mono ?_
    rintro e w4 ⟨rfl, hb⟩
    have HQ4 := Lib.hid (HQ3.out.later hb)
    have HB4 := Lib.hid (HB3.out.trans (hb.mono HB3.out.size))
    clear hb o0 o1 o2 HQ3 HB3
    obtain ⟨lr, hlr⟩ : ∃ lr, st.foulR p = lr := ⟨_, rfl⟩
    have HLR := Lib.hid hlr
    rw [hlr]
    clear hlr
    obtain ⟨t0, t1, t2⟩ := HQ4.out.s2
    go_wp2_with fail
    have HF4 := Lib.hid (show N2At (w4.alloc (.cells #[.int .i64 lr.1, .int .i64 lr.2.1] 50)) w4.heap.size lr.1 lr.2.1 from (by (repeat' refine And.intro ?_ ?_) <;> (repeat (first | (with_reducible assumption) | (simp; done) | (with_reducible refine cell_drew_of ?_) | (with_reducible refine cell_drewN_of ?_) | (with_reducible refine cell_below_of (by with_reducible assumption) ?_) | ((with_reducible refine cell_new_of ?_ ?_) <;> (first | (with_reducible rfl) | (simp; done))) | ((with_reducible refine fro_new_of ?_) <;> (first | (with_reducible rfl) | (simp; done))) | (with_reducible refine cell_alloc_of _ ?_) | (with_reducible refine cell_set_of _ (by (first | exact Nat.le_refl _ | omega | (simp; done) | (simp; omega))) ?_) | (with_reducible refine fro_drew_of ?_) | (with_reducible refine fro_drewN_of ?_) | (with_reducible refine fro_below_of (by with_reducible assumption) (by (first | exact Nat.le_refl _ | omega | (simp; done) | (simp; omega))) ?_) | (with_reducible refine fro_alloc_of _ (by (first | exact Nat.le_refl _ | omega | (simp; done) | (simp; omega))) ?_) | (with_reducible refine fro_set_of _ ?_)))))
    have hba : Below w4.heap.size w4 (w4.alloc (.cells #[.int .i64 lr.1, .int .i64 lr.2.1] 50)) := (by repeat (first | (with_reducible exact Below.refl _ _) | (with_reducible refine Below.drew ?_) | (with_reducible refine below_drewN ?_ _) | ((with_reducible refine below_alloc ?_ ?_ _); · (first | exact Nat.le_refl _ | omega | (simp; done) | (simp; omega) | (simp at *; omega))) | ((with_reducible refine below_set ?_ ?_ _); · (first | exact Nat.le_refl _ | omega | (simp; done) | (simp; omega) | (simp at *; omega))) | ((with_reducible refine below_via (by with_reducible assumption) ?_ ?_); · (first | exact Nat.le_refl _ | omega | (simp; done) | (simp; omega) | (simp at *; omega)))))
    refine (rFoul_any st _ pA2 gA2 pc2 gc2 p _ (HQ4.out.later hba).r2).mono ?_
    rintro e w5 ⟨rfl, hb⟩
    rw [HLR.out]
    have hl1 : (lr.1 != lr.1) = false := by simp
    have hl2 : (lr.2.1 != lr.2.1) = false := by simp
    have hl3 : (lr.2.2 != lr.2.2) = false := by simp
    have HQ5 := Lib.hid ((HQ4.out.later hba).later hb)
    have HB5 := Lib.hid ((HB4.out.trans (hba.mono HB4.out.size)).trans (hb.mono (HB4.out.trans (hba.mono HB4.out.size)).size))
    have HF5 := Lib.hid (HF4.out.later hb)
    have hs5 : w4.heap.size < w5.heap.size := by have := hb.size; simp at this; omega
    clear hb hba t0 t1 t2 HQ4 HB4 HF4
    obtain ⟨⟨z0, z1⟩, _⟩ := HF5.out
    obtain ⟨o0, o1, o2⟩ := HQ5.out.s1
    go_upto_region 10 with fail
    have hba : Below w5.heap.size w5 (w5.alloc (.cells #[.int .i64 lr.1, .int .i64 lr.2.1] 50)) := (by repeat (first | (with_reducible exact Below.refl _ _) | (with_reducible refine Below.drew ?_) | (with_reducible refine below_drewN ?_ _) | ((with_reducible refine below_alloc ?_ ?_ _); · (first | exact Nat.le_refl _ | omega | (simp; done) | (simp; omega) | (simp at *; omega))) | ((with_reducible refine below_set ?_ ?_ _); · (first | exact Nat.le_refl _ | omega | (simp; done) | (simp; omega) | (simp at *; omega))) | ((with_reducible refine below_via (by with_reducible assumption) ?_ ?_); · (first | exact Nat.le_refl _ | omega | (simp; done) | (simp; omega) | (simp at *; omega)))))
    refine wp_world (fun W1 => LawAt W1 st W.heap.size b1 b2 pA gA pA1 gA1 pA2 gA2 pc gc pc1 gc1 pc2 gc2 ∧ Below W.heap.size W W1) ⟨HQ5.out.later hba, HB5.out.trans (hba.mono HB5.out.size)⟩ ?_
    clear hba z0 z1 o0 o1 o2 HQ5 HB5 HF5
    rintro wA ⟨hqA, hbA⟩
    have HQA := Lib.hid hqA
    have HBA := Lib.hid hbA
    clear hqA hbA
    obtain ⟨o0, o1, o2⟩ := HQA.out.s1
    go_wp2_with fail
    refine (Open_any st _ pA1 gA1 pc1 gc1 p q f _ HQA.out.r1).mono ?_
    rintro e w6 hpo
    obtain ⟨hb, mA, mc, nA, nc, rfl, hop, hog, hmc, hnc⟩ := hpo.one
    obtain ⟨hbn, hbm⟩ := St.openSt_bd h1 h2 p q f
    have HQ6 := Lib.hid (HQA.out.later hb)
    have HB6 := Lib.hid hb
    have HOP := Lib.hid hop
    have HOG := Lib.hid hog
    clear hb hop hog hpo o0 o1 o2
    obtain ⟨t0, t1, t2⟩ := HQ6.out.s2
    go_wp2_with fail
    have hba : Below w6.heap.size w6 (w6.alloc (.cells #[.slice mA (st.openSt p q f).n mc, .slice nA (st.openSt p q f).m nc, .int .i64 (st.openSt p q f).lots] 25)) := (by repeat (first | (with_reducible exact Below.refl _ _) | (with_reducible refine Below.drew ?_) | (with_reducible refine below_drewN ?_ _) | ((with_reducible refine below_alloc ?_ ?_ _); · (first | exact Nat.le_refl _ | omega | (simp; done) | (simp; omega) | (simp at *; omega))) | ((with_reducible refine below_set ?_ ?_ _); · (first | exact Nat.le_refl _ | omega | (simp; done) | (simp; omega) | (simp at *; omega))) | ((with_reducible refine below_via (by with_reducible assumption) ?_ ?_); · (first | exact Nat.le_refl _ | omega | (simp; done) | (simp; omega) | (simp at *; omega)))))
    refine (rOpen_any st _ pA2 gA2 pc2 gc2 p q f _ (HQ6.out.later hba).r2).mono ?_
    rintro e w7 hpo
    obtain ⟨hb, kA, kc, lA, lc, rfl, hkp, hkg, hkc, hlc⟩ := hpo.one
    generalize st.openSt p q f = s2 at *
    generalize st.openErr p q f = oe at *
    have hoe : (oe != oe) = false := by simp
    have HM7 := Lib.hid (show w7.cell? ⟨w6.heap.size, 0, none⟩ = some (.slice mA s2.n mc) ∧ w7.cell? ⟨w6.heap.size, 1, none⟩ = some (.slice nA s2.m nc) ∧ w7.cell? ⟨w6.heap.size, 2, none⟩ = some (.int .i64 s2.lots) from ⟨cell_below_of hb (by (repeat' refine And.intro ?_ ?_) <;> (repeat (first | (with_reducible assumption) | (simp; done) | (with_reducible refine cell_drew_of ?_) | (with_reducible refine cell_drewN_of ?_) | (with_reducible refine cell_below_of (by with_reducible assumption) ?_) | ((with_reducible refine cell_new_of ?_ ?_) <;> (first | (with_reducible rfl) | (simp; done))) | ((with_reducible refine fro_new_of ?_) <;> (first | (with_reducible rfl) | (simp; done))) | (with_reducible refine cell_alloc_of _ ?_) | (with_reducible refine cell_set_of _ (by (first | exact Nat.le_refl _ | omega | (simp; done) | (simp; omega))) ?_) | (with_reducible refine fro_drew_of ?_) | (with_reducible refine fro_drewN_of ?_) | (with_reducible refine fro_below_of (by with_reducible assumption) (by (first | exact Nat.le_refl _ | omega | (simp; done) | (simp; omega))) ?_) | (with_reducible refine fro_alloc_of _ (by (first | exact Nat.le_refl _ | omega | (simp; done) | (simp; omega))) ?_) | (with_reducible refine fro_set_of _ ?_)))), cell_below_of hb (by (repeat' refine And.intro ?_ ?_) <;> (repeat (first | (with_reducible assumption) | (simp; done) | (with_reducible refine cell_drew_of ?_) | (with_reducible refine cell_drewN_of ?_) | (with_reducible refine cell_below_of (by with_reducible assumption) ?_) | ((with_reducible refine cell_new_of ?_ ?_) <;> (first | (with_reducible rfl) | (simp; done))) | ((with_reducible refine fro_new_of ?_) <;> (first | (with_reducible rfl) | (simp; done))) | (with_reducible refine cell_alloc_of _ ?_) | (with_reducible refine cell_set_of _ (by (first | exact Nat.le_refl _ | omega | (simp; done) | (simp; omega))) ?_) | (with_reducible refine fro_drew_of ?_) | (with_reducible refine fro_drewN_of ?_) | (with_reducible refine fro_below_of (by with_reducible assumption) (by (first | exact Nat.le_refl _ | omega | (simp; done) | (simp; omega))) ?_) | (with_reducible refine fro_alloc_of _ (by (first | exact Nat.le_refl _ | omega | (simp; done) | (simp; omega))) ?_) | (with_reducible refine fro_set_of _ ?_)))), cell_below_of hb (by (repeat' refine And.intro ?_ ?_) <;> (repeat (first | (with_reducible assumption) | (simp; done) | (with_reducible refine cell_drew_of ?_) | (with_reducible refine cell_drewN_of ?_) | (with_reducible refine cell_below_of (by with_reducible assumption) ?_) | ((with_reducible refine cell_new_of ?_ ?_) <;> (first | (with_reducible rfl) | (simp; done))) | ((with_reducible refine fro_new_of ?_) <;> (first | (with_reducible rfl) | (simp; done))) | (with_reducible refine cell_alloc_of _ ?_) | (with_reducible refine cell_set_of _ (by (first | exact Nat.le_refl _ | omega | (simp; done) | (simp; omega))) ?_) | (with_reducible refine fro_drew_of ?_) | (with_reducible refine fro_drewN_of ?_) | (with_reducible refine fro_below_of (by with_reducible assumption) (by (first | exact Nat.le_refl _ | omega | (simp; done) | (simp; omega))) ?_) | (with_reducible refine fro_alloc_of _ (by (first | exact Nat.le_refl _ | omega | (simp; done) | (simp; omega))) ?_) | (with_reducible refine fro_set_of _ ?_))))⟩)
    have HOP7 := Lib.hid ((HOP.out.later hba).later hb)
    have HOG7 := Lib.hid ((HOG.out.later hba).later hb)
    have HR7 := Lib.hid (StRow.of_own HOP7.out HOG7.out (by omega) (by omega) hmc hnc)
    have HK7 := Lib.hid (StRow.of_own hkp hkg (by omega) (by omega) hkc hlc)
    have HB7 := Lib.hid (HB6.out.trans ((hba.trans (hb.mono hba.size)).mono HB6.out.size))
    have hs7 : w6.heap.size < w7.heap.size := by have := hb.size; simp at this; omega
    have hsA : wA.heap.size ≤ w6.heap.size := HB6.out.size
    have HLT : Hid (∀ b, mA = some ⟨b, 0, none⟩ → 0 < s2.n → b < w6.heap.size) := Lib.hid (fun b e hn => by
      obtain ⟨b', hA, _, c0, _⟩ := HOP.out 0 hn
      rw [e] at hA
      injection hA with hA
      injection hA with hA
      subst hA
      exact World.block_lt_of_cell? w6 _ c0)
    clear hb hba t0 t1 t2 hpo hkp hkg HQ6 HB6 HOP HOG
    go_upto_region 12 with fail
    have hba : Below w7.heap.size w7 (w7.alloc (.cells #[.slice kA s2.n kc, .slice lA s2.m lc, .int .i64 s2.lots] 34)) := (by repeat (first | (with_reducible exact Below.refl _ _) | (with_reducible refine Below.drew ?_) | (with_reducible refine below_drewN ?_ _) | ((with_reducible refine below_alloc ?_ ?_ _); · (first | exact Nat.le_refl _ | omega | (simp; done) | (simp; omega) | (simp at *; omega))) | ((with_reducible refine below_set ?_ ?_ _); · (first | exact Nat.le_refl _ | omega | (simp; done) | (simp; omega) | (simp at *; omega))) | ((with_reducible refine below_via (by with_reducible assumption) ?_ ?_); · (first | exact Nat.le_refl _ | omega | (simp; done) | (simp; omega) | (simp at *; omega)))))
    refine wp_world (fun W1 => ((W1.cell? ⟨w6.heap.size, 0, none⟩ = some (.slice mA s2.n mc) ∧ W1.cell? ⟨w6.heap.size, 1, none⟩ = some (.slice nA s2.m nc) ∧ W1.cell? ⟨w6.heap.size, 2, none⟩ = some (.int .i64 s2.lots)) ∧ W1.cell? ⟨w7.heap.size, 0, none⟩ = some (.slice kA s2.n kc) ∧ W1.cell? ⟨w7.heap.size, 1, none⟩ = some (.slice lA s2.m lc) ∧ W1.cell? ⟨w7.heap.size, 2, none⟩ = some (.int .i64 s2.lots)) ∧
      OwnPk W1 wA.heap.size mA s2.n s2.P ∧ OwnGd W1 wA.heap.size nA s2.m s2.G ∧ StRow W1 W1.heap.size s2 mA mc nA nc ∧ StRow W1 W1.heap.size s2 kA kc lA lc ∧ Below wA.heap.size wA W1 ∧ w7.heap.size < W1.heap.size)
      ⟨⟨⟨cell_below_of hba HM7.out.1, cell_below_of hba HM7.out.2.1, cell_below_of hba HM7.out.2.2⟩, (by (repeat' refine And.intro ?_ ?_) <;> (repeat (first | (with_reducible assumption) | (simp; done) | (with_reducible refine cell_drew_of ?_) | (with_reducible refine cell_drewN_of ?_) | (with_reducible refine cell_below_of (by with_reducible assumption) ?_) | ((with_reducible refine cell_new_of ?_ ?_) <;> (first | (with_reducible rfl) | (simp; done))) | ((with_reducible refine fro_new_of ?_) <;> (first | (with_reducible rfl) | (simp; done))) | (with_reducible refine cell_alloc_of _ ?_) | (with_reducible refine cell_set_of _ (by (first | exact Nat.le_refl _ | omega | (simp; done) | (simp; omega))) ?_) | (with_reducible refine fro_drew_of ?_) | (with_reducible refine fro_drewN_of ?_) | (with_reducible refine fro_below_of (by with_reducible assumption) (by (first | exact Nat.le_refl _ | omega | (simp; done) | (simp; omega))) ?_) | (with_reducible refine fro_alloc_of _ (by (first | exact Nat.le_refl _ | omega | (simp; done) | (simp; omega))) ?_) | (with_reducible refine fro_set_of _ ?_))))⟩, HOP7.out.later hba, HOG7.out.later hba, HR7.out.later2 hba, HK7.out.later2 hba, HB7.out.trans (hba.mono HB7.out.size), by simp⟩ ?_
    clear hba HM7 HOP7 HOG7 HR7 HK7 HB7
    rintro wX ⟨⟨⟨m0, m1, m2⟩, k0, k1, k2⟩, hop, hog, hr, hkr, hbX, hsX⟩
    have HMX := Lib.hid (show _ ∧ _ ∧ _ from ⟨m0, m1, m2⟩)
    have HOP := Lib.hid hop
    have HOG := Lib.hid hog
    have HRX := Lib.hid hr
    have HKX := Lib.hid hkr
    have HBX := Lib.hid hbX
    clear hop hog hr hkr hbX
    go_region_held3 (fun w' => (w'.cell? ⟨w6.heap.size, 0, none⟩ = some (.slice mA s2.n mc) ∧ w'.cell? ⟨w6.heap.size, 1, none⟩ = some (.slice nA s2.m nc) ∧ w'.cell? ⟨w6.heap.size, 2, none⟩ = some (.int .i64 s2.lots)) ∧ w'.cell? ⟨w7.heap.size, 0, none⟩ = some (.slice kA s2.n kc) ∧ w'.cell? ⟨w7.heap.size, 1, none⟩ = some (.slice lA s2.m lc) ∧ w'.cell? ⟨w7.heap.size, 2, none⟩ = some (.int .i64 s2.lots)) ((go_split_ands; (repeat' refine And.intro ?_ ?_) <;> (repeat (first | (with_reducible assumption) | (simp; done) | (with_reducible refine cell_drew_of ?_) | (with_reducible refine cell_drewN_of ?_) | (with_reducible refine cell_below_of (by with_reducible assumption) ?_) | ((with_reducible refine cell_new_of ?_ ?_) <;> (first | (with_reducible rfl) | (simp; done))) | ((with_reducible refine fro_new_of ?_) <;> (first | (with_reducible rfl) | (simp; done))) | (with_reducible refine cell_alloc_of _ ?_) | (with_reducible refine cell_set_of _ (by (first | exact Nat.le_refl _ | omega | (simp; done) | (simp; omega))) ?_) | (with_reducible refine fro_drew_of ?_) | (with_reducible refine fro_drewN_of ?_) | (with_reducible refine fro_below_of (by with_reducible assumption) (by (first | exact Nat.le_refl _ | omega | (simp; done) | (simp; omega))) ?_) | (with_reducible refine fro_alloc_of _ (by (first | exact Nat.le_refl _ | omega | (simp; done) | (simp; omega))) ?_) | (with_reducible refine fro_set_of _ ?_))))) (first | (go_at_call 58; refine (ours_any s2 _ kA lA kc lc _ (HKX.out.later2 (show Below wX.heap.size wX _ from (by repeat (first | (with_reducible exact Below.refl _ _) | (with_reducible refine Below.drew ?_) | (with_reducible refine below_drewN ?_ _) | ((with_reducible refine below_alloc ?_ ?_ _); · (first | exact Nat.le_refl _ | omega | (simp; done) | (simp; omega) | (simp at *; omega))) | ((with_reducible refine below_set ?_ ?_ _); · (first | exact Nat.le_refl _ | omega | (simp; done) | (simp; omega) | (simp at *; omega))) | ((with_reducible refine below_via (by with_reducible assumption) ?_ ?_); · (first | exact Nat.le_refl _ | omega | (simp; done) | (simp; omega) | (simp at *; omega)))))))).mono ?_; rintro e wu ⟨hbu, uA, uc, vA, vc, rfl, hup, hug, huc, hvc⟩; obtain ⟨hcu, hfu⟩ := bcell hbu; have hzu := hbu.size; (try simp only [World.size_drew, World.heap_drewN, World.size_alloc] at hzu); clear hcu hfu) | (go_at_call 26; refine (same_any s2 _ _ mA nA uA vA mc nc uc vc _ (HRX.out.later2 (show Below wX.heap.size wX _ from (by repeat (first | (with_reducible exact Below.refl _ _) | (with_reducible refine Below.drew ?_) | (with_reducible refine below_drewN ?_ _) | ((with_reducible refine below_alloc ?_ ?_ _); · (first | exact Nat.le_refl _ | omega | (simp; done) | (simp; omega) | (simp at *; omega))) | ((with_reducible refine below_set ?_ ?_ _); · (first | exact Nat.le_refl _ | omega | (simp; done) | (simp; omega) | (simp at *; omega))) | ((with_reducible refine below_via (by with_reducible assumption) ?_ ?_); · (first | exact Nat.le_refl _ | omega | (simp; done) | (simp; omega) | (simp at *; omega))))))) ((StRow.of_own hup hug (by omega) (by omega) huc hvc).later2 (show Below wu.heap.size wu _ from (by repeat (first | (with_reducible exact Below.refl _ _) | (with_reducible refine Below.drew ?_) | (with_reducible refine below_drewN ?_ _) | ((with_reducible refine below_alloc ?_ ?_ _); · (first | exact Nat.le_refl _ | omega | (simp; done) | (simp; omega) | (simp at *; omega))) | ((with_reducible refine below_set ?_ ?_ _); · (first | exact Nat.le_refl _ | omega | (simp; done) | (simp; omega) | (simp at *; omega))) | ((with_reducible refine below_via (by with_reducible assumption) ?_ ?_); · (first | exact Nat.le_refl _ | omega | (simp; done) | (simp; omega) | (simp at *; omega)))))))).mono ?_; rintro e ws ⟨rfl, hbs⟩; obtain ⟨hcs, hfs⟩ := bcell hbs; have hzs := hbs.size; (try simp only [World.size_drew, World.heap_drewN, World.size_alloc] at hzs); clear hcs hfs))
    have HBs := Lib.hid (show Below wX.heap.size wX ws from (by repeat (first | (with_reducible exact Below.refl _ _) | (with_reducible refine Below.drew ?_) | (with_reducible refine below_drewN ?_ _) | ((with_reducible refine below_alloc ?_ ?_ _); · (first | exact Nat.le_refl _ | omega | (simp; done) | (simp; omega) | (simp at *; omega))) | ((with_reducible refine below_set ?_ ?_ _); · (first | exact Nat.le_refl _ | omega | (simp; done) | (simp; omega) | (simp at *; omega))) | ((with_reducible refine below_via (by with_reducible assumption) ?_ ?_); · (first | exact Nat.le_refl _ | omega | (simp; done) | (simp; omega) | (simp at *; omega))))))
    have HMS := Lib.hid (show ws.cell? ⟨w6.heap.size, 0, none⟩ = some (.slice mA s2.n mc) ∧ ws.cell? ⟨w6.heap.size, 1, none⟩ = some (.slice nA s2.m nc) from ⟨cell_below_of HBs.out HMX.out.1, cell_below_of HBs.out HMX.out.2.1⟩)
    have HCP := Lib.hid (HOP.out.later HBs.out).clr
    have HCG := Lib.hid (HOG.out.later HBs.out).clr
    have HBS := Lib.hid (HBX.out.trans (HBs.out.mono (by omega)))
    have hsS := HBS.out.size
    clear hbu hup hug hbs m0 m1 m2 k0 k1 k2 hzu hzs HMX HOP HOG HRX HKX HBX HBs
    obtain ⟨m0, m1⟩ := HMS.out
    obtain ⟨i0, hi, hz0, hz1, hz2⟩ := info_parts infoPkL
    obtain ⟨j0, ji, jz0, jz1, jz2⟩ := info_parts infoGdL
    go_wp2_with fail
    obtain ⟨wk, hrk, hbk, hsk, hck, hfk, hkk⟩ := run_clear (P := Try.prog) ws 22 0 75 i0 _ pksL_under hi hz0 (by decide) (by decide) wA.heap.size mA s2.n mc HCP.out
    rw [hrk]
    have m1 := cell_same (hkk _ (fun hn b hb => by have := HLT.out b hb hn; omega)) HMS.out.2
    have HCG2 := Lib.hid (clr_later HCG.out hck hfk)
    have HBK := Lib.hid (HBS.out.trans hbk)
    clear m0 hbk hck hfk hkk hrk
    go_wp2_with fail
    obtain ⟨wl, hrl, hbl, hsl, hcl, hfl, hkl⟩ := run_clear (P := Try.prog) wk 23 0 82 j0 _ gdsL_under ji jz0 (by decide) (by decide) wA.heap.size nA s2.m nc HCG2.out
    rw [hrl]
    have HBL := Lib.hid (HBK.out.trans hbl)
    clear m1 hbl hcl hfl hkl hrl
    have HQL := Lib.hid (HQA.out.later HBL.out)
    have HBW := Lib.hid (HBA.out.trans (HBL.out.mono HBA.out.size))
    obtain ⟨o0, o1, o2⟩ := HQL.out.s1
    obtain ⟨t0, t1, t2⟩ := HQL.out.s0
    go_wp2_with fail
    refine (same_any st _ _ pA1 gA1 pA gA pc1 gc1 pc gc _ HQL.out.r1 HQL.out.r0).mono ?_
    rintro e w10 ⟨rfl, hb⟩
    have HBa := Lib.hid (HBW.out.trans (hb.mono HBW.out.size))
    clear hb o0 o1 o2 t0 t1 t2
    go_wp2_with fail
    refine (awake_any _).mono ?_
    rintro e w12 ⟨rfl, hb⟩
    have HBc := Lib.hid (HBa.out.trans (hb.mono HBa.out.size))
    clear hb
    go_wp2_with fail
    go_ret
    exact ⟨rfl, HBc.out⟩

theorem stores_long (st : St) (pA gA : Option Addr) (pc gc : Nat) (p q f : Int) (W : World) (h : 6 < st.n ∨ 6 < st.m) :
    Calls Try.prog 10 #[stV pA st.n pc gA st.m gc st.lots, .int .i64 p, .int .i64 q, .int .i64 f] W fun e W' => e = .returned (.bool true) ∧ Below W.heap.size W W' := by
  have h1 : (decide (6 < st.n) || decide (6 < st.m)) = true := by simpa using h
  clear h
  go_enter Try.func10, Try.ntmps10
  go_wp2_with fail
  refine (long_any pA gA st.n pc st.m gc st.lots _).mono ?_
  rintro e w1 ⟨rfl, hb1⟩
  rw [h1]
  have HB1 := Lib.hid (show Below W.heap.size W w1 from (by repeat (first | (with_reducible exact Below.refl _ _) | (with_reducible refine Below.drew ?_) | (with_reducible refine below_drewN ?_ _) | ((with_reducible refine below_alloc ?_ ?_ _); · (first | exact Nat.le_refl _ | omega | (simp; done) | (simp; omega) | (simp at *; omega))) | ((with_reducible refine below_set ?_ ?_ _); · (first | exact Nat.le_refl _ | omega | (simp; done) | (simp; omega) | (simp at *; omega))) | ((with_reducible refine below_via (by with_reducible assumption) ?_ ?_); · (first | exact Nat.le_refl _ | omega | (simp; done) | (simp; omega) | (simp at *; omega))))))
  have hs1 := HB1.out.size
  clear hb1
  go_wp2_with fail
  refine (awake_any _).mono ?_
  rintro e w2 ⟨rfl, hb2⟩
  have HB2 := Lib.hid (HB1.out.trans (hb2.mono hs1))
  clear hb2
  go_wp2_with fail
  go_ret
  exact ⟨rfl, HB2.out⟩
theorem stores_any (st : St) (pA gA : Option Addr) (pc gc : Nat) (p q f : Int) (W : World) (hp : PkRow W W.heap.size pA st.n st.P) (hg : GdRow W W.heap.size gA st.m st.G) (hpc : st.n ≤ pc) (hgc : st.m ≤ gc) :
    Calls Try.prog 10 #[stV pA st.n pc gA st.m gc st.lots, .int .i64 p, .int .i64 q, .int .i64 f] W fun e W' => e = .returned (.bool true) ∧ Below W.heap.size W W' := by
  by_cases h : 6 < st.n ∨ 6 < st.m
  · exact stores_long st pA gA pc gc p q f W h
  · exact stores_in st W.heap.size pA gA pc gc p q f W ⟨Nat.le_refl _, hp, hg, by omega, by omega, hpc, hgc⟩ (by omega) (by omega)
end Go.Proofs.Ytegmomappbehcaa
