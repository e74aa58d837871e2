/- Spare of package lot. -/
import Derived.Test.YtmbkngfcbgbeiaaGreatWp
set_option linter.unusedSimpArgs false
set_option linter.unusedVariables false
namespace Go.Proofs.YtmbkngfcbgbeiaaGreat
open Go.RowKit Go.Shelf

/-- the greatest number up to k of sacks of a picking with which a bag surely has a grade; -1 if there is none -/
def St.spareN (st : St) (x : Bag) (p : Nat) (g : Gd) : Nat → Int
  | 0 => if st.has (x.set p (x.at p)) g then 0 else -1
  | k + 1 => if st.has (x.set p (x.at p + ((k + 1 : Nat) : Int))) g then ((k + 1 : Nat) : Int) else st.spareN x p g k
def St.spareR (st : St) (n : Nat) (X : Nat → Int) (grade p : Int) : Int × Int :=
  if st.askErr n X ≠ 0 then (0, st.askErr n X) else if inB grade 0 ((st.m : Int) - 1) = false ∨ inB p 0 (st.n - 1) = false then (0, 2)
  else if st.spareN (bagOf X n) p.toNat (st.G grade.toNat) (st.all.at p.toNat - (bagOf X n).at p.toNat).toNat < 0 then (0, 1) else (st.spareN (bagOf X n) p.toNat (st.G grade.toNat) (st.all.at p.toNat - (bagOf X n).at p.toNat).toNat, 0)

set_option maxRecDepth 100000 in
set_option maxHeartbeats 2000000 in
theorem Spare_no (st : St) (B : Nat) (pA gA : Option Addr) (pc gc : Nat) (lA : Option Addr) (ln lc : Nat) (X : Nat → Int) (grade p : Int) (W : World) (hs : StRow W B st pA pc gA gc) (hl : IntRow W W.heap.size lA ln X) (hn : ln ≤ 1000)
    (hno : st.askErr ln X ≠ 0 ∨ inB grade 0 ((st.m : Int) - 1) = false ∨ inB p 0 (st.n - 1) = false) :
    Calls Tryz.prog 39 #[stV pA st.n pc gA st.m gc st.lots, .slice lA ln lc, .int .i64 grade, .int .i64 p] W fun e W' => e = .returned (nuV (st.spareR ln X grade p)) ∧ Below W.heap.size W W' := by
  have hm1 := hs.m
  have HS := Lib.hid hs; have hB := hs.lt; have HL := Lib.hid hl; clear hs hl
  by_cases h0 : st.askErr ln X = 0
  · have hnb : (st.askErr ln X != 0) = false := by simpa using h0
    have H0 := Lib.hid h0
    have HR : Hid (st.spareR ln X grade p = (0, 2)) := Lib.hid (by unfold St.spareR; rw [if_neg (by simp [h0]), if_pos (by rcases hno with h | h; exact absurd h0 h; exact h)])
    cases hin : inB grade 0 ((st.m : Int) - 1) with
    | false =>
      clear h0 hno
      go_enter Tryz.func39, Tryz.ntmps39
      go_wp2_with fail
      refine (asked_any st B pA gA pc gc lA ln lc X _ (HS.out.later (by repeat (first | (with_reducible exact Below.refl _ _) | (with_reducible refine Below.drew ?_) | (with_reducible refine below_drewN ?_ _) | ((with_reducible refine below_alloc ?_ ?_ _); · (first | exact Nat.le_refl _ | omega | (simp; done) | (simp; omega) | (simp at *; omega))) | ((with_reducible refine below_set ?_ ?_ _); · (first | exact Nat.le_refl _ | omega | (simp; done) | (simp; omega) | (simp at *; omega))) | ((with_reducible refine below_via (by with_reducible assumption) ?_ ?_); · (first | exact Nat.le_refl _ | omega | (simp; done) | (simp; omega) | (simp at *; omega)))))) (HL.out.later (by repeat (first | (with_reducible exact Below.refl _ _) | (with_reducible refine Below.drew ?_) | (with_reducible refine below_drewN ?_ _) | ((with_reducible refine below_alloc ?_ ?_ _); · (first | exact Nat.le_refl _ | omega | (simp; done) | (simp; omega) | (simp at *; omega))) | ((with_reducible refine below_set ?_ ?_ _); · (first | exact Nat.le_refl _ | omega | (simp; done) | (simp; omega) | (simp at *; omega))) | ((with_reducible refine below_via (by with_reducible assumption) ?_ ?_); · (first | exact Nat.le_refl _ | omega | (simp; done) | (simp; omega) | (simp at *; omega)))))) hn).mono ?_; rintro e w1 ⟨hb1, ⟨h0, db, rfl, hD, hdb⟩ | ⟨h0, p, rfl⟩⟩
      · obtain ⟨hc1, hf1⟩ := bcell hb1; have hz1 := hb1.size; (try simp only [World.size_drew, World.heap_drewN, World.size_alloc] at hz1)
        clear hc1 hf1 hD hdb h0
        have s1 : w1.cell? ⟨W.heap.size, 1, none⟩ = some (.slice gA st.m gc) := (by (repeat' refine And.intro ?_ ?_) <;> (repeat (first | (with_reducible assumption) | (simp; done) | (with_reducible refine cell_drew_of ?_) | (with_reducible refine cell_drewN_of ?_) | (with_reducible refine cell_below_of (by with_reducible assumption) ?_) | ((with_reducible refine cell_new_of ?_ ?_) <;> (first | (with_reducible rfl) | (simp; done))) | ((with_reducible refine fro_new_of ?_) <;> (first | (with_reducible rfl) | (simp; done))) | (with_reducible refine cell_alloc_of _ ?_) | (with_reducible refine cell_set_of _ (by (first | exact Nat.le_refl _ | omega | (simp; done) | (simp; omega))) ?_) | (with_reducible refine fro_drew_of ?_) | (with_reducible refine fro_drewN_of ?_) | (with_reducible refine fro_below_of (by with_reducible assumption) (by (first | exact Nat.le_refl _ | omega | (simp; done) | (simp; omega))) ?_) | (with_reducible refine fro_alloc_of _ (by (first | exact Nat.le_refl _ | omega | (simp; done) | (simp; omega))) ?_) | (with_reducible refine fro_set_of _ ?_))))
        go_wp2_with (go_at_call 67; refine (in_any _ _ _ _).mono ?_; rintro e w' ⟨rfl, rfl⟩)
        go_ret2
        exact ⟨by rw [HR.out]; rfl, (by repeat (first | (with_reducible exact Below.refl _ _) | (with_reducible refine Below.drew ?_) | (with_reducible refine below_drewN ?_ _) | ((with_reducible refine below_alloc ?_ ?_ _); · (first | exact Nat.le_refl _ | omega | (simp; done) | (simp; omega) | (simp at *; omega))) | ((with_reducible refine below_set ?_ ?_ _); · (first | exact Nat.le_refl _ | omega | (simp; done) | (simp; omega) | (simp at *; omega))) | ((with_reducible refine below_via (by with_reducible assumption) ?_ ?_); · (first | exact Nat.le_refl _ | omega | (simp; done) | (simp; omega) | (simp at *; omega)))))⟩
      · exact absurd H0.out h0
    | true =>
      have hip : inB p 0 (st.n - 1) = false := by rcases hno with h | h | h; exact absurd h0 h; rw [hin] at h; cases h; exact h
      clear h0 hno
      go_enter Tryz.func39, Tryz.ntmps39
      go_wp2_with fail
      refine (asked_any st B pA gA pc gc lA ln lc X _ (HS.out.later (by repeat (first | (with_reducible exact Below.refl _ _) | (with_reducible refine Below.drew ?_) | (with_reducible refine below_drewN ?_ _) | ((with_reducible refine below_alloc ?_ ?_ _); · (first | exact Nat.le_refl _ | omega | (simp; done) | (simp; omega) | (simp at *; omega))) | ((with_reducible refine below_set ?_ ?_ _); · (first | exact Nat.le_refl _ | omega | (simp; done) | (simp; omega) | (simp at *; omega))) | ((with_reducible refine below_via (by with_reducible assumption) ?_ ?_); · (first | exact Nat.le_refl _ | omega | (simp; done) | (simp; omega) | (simp at *; omega)))))) (HL.out.later (by repeat (first | (with_reducible exact Below.refl _ _) | (with_reducible refine Below.drew ?_) | (with_reducible refine below_drewN ?_ _) | ((with_reducible refine below_alloc ?_ ?_ _); · (first | exact Nat.le_refl _ | omega | (simp; done) | (simp; omega) | (simp at *; omega))) | ((with_reducible refine below_set ?_ ?_ _); · (first | exact Nat.le_refl _ | omega | (simp; done) | (simp; omega) | (simp at *; omega))) | ((with_reducible refine below_via (by with_reducible assumption) ?_ ?_); · (first | exact Nat.le_refl _ | omega | (simp; done) | (simp; omega) | (simp at *; omega)))))) hn).mono ?_; rintro e w1 ⟨hb1, ⟨h0, db, rfl, hD, hdb⟩ | ⟨h0, p, rfl⟩⟩
      · obtain ⟨hc1, hf1⟩ := bcell hb1; have hz1 := hb1.size; (try simp only [World.size_drew, World.heap_drewN, World.size_alloc] at hz1)
        have HD := Lib.hid hD
        have HA := Lib.hid (St.askErr_ok h0)
        simp only [World.size_alloc] at hdb
        have hs1 := hb1.size
        simp only [World.size_alloc] at hs1
        have s1 : w1.cell? ⟨W.heap.size, 1, none⟩ = some (.slice gA st.m gc) := (by (repeat' refine And.intro ?_ ?_) <;> (repeat (first | (with_reducible assumption) | (simp; done) | (with_reducible refine cell_drew_of ?_) | (with_reducible refine cell_drewN_of ?_) | (with_reducible refine cell_below_of (by with_reducible assumption) ?_) | ((with_reducible refine cell_new_of ?_ ?_) <;> (first | (with_reducible rfl) | (simp; done))) | ((with_reducible refine fro_new_of ?_) <;> (first | (with_reducible rfl) | (simp; done))) | (with_reducible refine cell_alloc_of _ ?_) | (with_reducible refine cell_set_of _ (by (first | exact Nat.le_refl _ | omega | (simp; done) | (simp; omega))) ?_) | (with_reducible refine fro_drew_of ?_) | (with_reducible refine fro_drewN_of ?_) | (with_reducible refine fro_below_of (by with_reducible assumption) (by (first | exact Nat.le_refl _ | omega | (simp; done) | (simp; omega))) ?_) | (with_reducible refine fro_alloc_of _ (by (first | exact Nat.le_refl _ | omega | (simp; done) | (simp; omega))) ?_) | (with_reducible refine fro_set_of _ ?_))))
        clear hc1 hf1 hD h0
        go_wp2_with (first | (go_at_call 67; refine (in_any _ _ _ _).mono ?_; rintro e w' ⟨rfl, rfl⟩) | (go_at_call 64; refine (picking_any st HA.out.1 db p _ ((HD.out.at (by omega)).later (by repeat (first | (with_reducible exact Below.refl _ _) | (with_reducible refine Below.drew ?_) | (with_reducible refine below_drewN ?_ _) | ((with_reducible refine below_alloc ?_ ?_ _); · (first | exact Nat.le_refl _ | omega | (simp; done) | (simp; omega) | (simp at *; omega))) | ((with_reducible refine below_set ?_ ?_ _); · (first | exact Nat.le_refl _ | omega | (simp; done) | (simp; omega) | (simp at *; omega))) | ((with_reducible refine below_via (by with_reducible assumption) ?_ ?_); · (first | exact Nat.le_refl _ | omega | (simp; done) | (simp; omega) | (simp at *; omega))))))).mono ?_; rintro e w' ⟨rfl, rfl⟩))
        go_ret2
        exact ⟨by rw [HR.out]; rfl, (by repeat (first | (with_reducible exact Below.refl _ _) | (with_reducible refine Below.drew ?_) | (with_reducible refine below_drewN ?_ _) | ((with_reducible refine below_alloc ?_ ?_ _); · (first | exact Nat.le_refl _ | omega | (simp; done) | (simp; omega) | (simp at *; omega))) | ((with_reducible refine below_set ?_ ?_ _); · (first | exact Nat.le_refl _ | omega | (simp; done) | (simp; omega) | (simp at *; omega))) | ((with_reducible refine below_via (by with_reducible assumption) ?_ ?_); · (first | exact Nat.le_refl _ | omega | (simp; done) | (simp; omega) | (simp at *; omega)))))⟩
      · exact absurd H0.out h0
  · have HR : Hid (st.spareR ln X grade p = (0, st.askErr ln X)) := Lib.hid (by unfold St.spareR; rw [if_pos h0])
    have hnb : (st.askErr ln X != 0) = true := by simpa using h0
    have H0 := Lib.hid h0
    clear h0 hno
    go_enter Tryz.func39, Tryz.ntmps39
    go_wp2_with fail
    refine (asked_any st B pA gA pc gc lA ln lc X _ (HS.out.later (by repeat (first | (with_reducible exact Below.refl _ _) | (with_reducible refine Below.drew ?_) | (with_reducible refine below_drewN ?_ _) | ((with_reducible refine below_alloc ?_ ?_ _); · (first | exact Nat.le_refl _ | omega | (simp; done) | (simp; omega) | (simp at *; omega))) | ((with_reducible refine below_set ?_ ?_ _); · (first | exact Nat.le_refl _ | omega | (simp; done) | (simp; omega) | (simp at *; omega))) | ((with_reducible refine below_via (by with_reducible assumption) ?_ ?_); · (first | exact Nat.le_refl _ | omega | (simp; done) | (simp; omega) | (simp at *; omega)))))) (HL.out.later (by repeat (first | (with_reducible exact Below.refl _ _) | (with_reducible refine Below.drew ?_) | (with_reducible refine below_drewN ?_ _) | ((with_reducible refine below_alloc ?_ ?_ _); · (first | exact Nat.le_refl _ | omega | (simp; done) | (simp; omega) | (simp at *; omega))) | ((with_reducible refine below_set ?_ ?_ _); · (first | exact Nat.le_refl _ | omega | (simp; done) | (simp; omega) | (simp at *; omega))) | ((with_reducible refine below_via (by with_reducible assumption) ?_ ?_); · (first | exact Nat.le_refl _ | omega | (simp; done) | (simp; omega) | (simp at *; omega)))))) hn).mono ?_; rintro e w1 ⟨hb1, ⟨h0, db, rfl, hD, hdb⟩ | ⟨h0, p, rfl⟩⟩
    · exact absurd h0 H0.out
    obtain ⟨hc1, hf1⟩ := bcell hb1; have hz1 := hb1.size; (try simp only [World.size_drew, World.heap_drewN, World.size_alloc] at hz1)
    clear hc1 hf1 h0
    go_wp2_with fail
    go_ret2
    exact ⟨by rw [HR.out]; rfl, (by repeat (first | (with_reducible exact Below.refl _ _) | (with_reducible refine Below.drew ?_) | (with_reducible refine below_drewN ?_ _) | ((with_reducible refine below_alloc ?_ ?_ _); · (first | exact Nat.le_refl _ | omega | (simp; done) | (simp; omega) | (simp at *; omega))) | ((with_reducible refine below_set ?_ ?_ _); · (first | exact Nat.le_refl _ | omega | (simp; done) | (simp; omega) | (simp at *; omega))) | ((with_reducible refine below_via (by with_reducible assumption) ?_ ?_); · (first | exact Nat.le_refl _ | omega | (simp; done) | (simp; omega) | (simp at *; omega)))))⟩

theorem Bag.set_in {x y : Bag} (h : x.in_ y) {p : Nat} (hp : p < 4) {v : Int} (hv : 0 ≤ v ∧ v ≤ y.at p) : (x.set p v).in_ y := by
  have key : ∀ k, k < 4 → 0 ≤ (x.set p v).at k ∧ (x.set p v).at k ≤ y.at k := fun k hk => by
    rw [Bag.at_set hp]
    split
    · subst k; exact hv
    · exact Bag.in_at h k
  exact ⟨key 0 (by omega), key 1 (by omega), key 2 (by omega), key 3 (by omega)⟩
theorem bag_set {w : World} {b : Nat} {x : Bag} (h : BagAt w b x) {p : Nat} (hp : p < 4) (v : Int) : BagAt (w.setCell ⟨b, p, none⟩ (.int .i64 v)) b (x.set p v) := by
  obtain ⟨⟨h0, h1, h2, h3⟩, f0, f1, f2, f3⟩ := h
  match p, hp with
  | 0, _ => exact ⟨⟨by simp [go_sem, h0, Bag.set], by simp [go_sem, h1, Bag.set], by simp [go_sem, h2, Bag.set], by simp [go_sem, h3, Bag.set]⟩, fro_set_of _ f0, fro_set_of _ f1, fro_set_of _ f2, fro_set_of _ f3⟩
  | 1, _ => exact ⟨⟨by simp [go_sem, h0, Bag.set], by simp [go_sem, h1, Bag.set], by simp [go_sem, h2, Bag.set], by simp [go_sem, h3, Bag.set]⟩, fro_set_of _ f0, fro_set_of _ f1, fro_set_of _ f2, fro_set_of _ f3⟩
  | 2, _ => exact ⟨⟨by simp [go_sem, h0, Bag.set], by simp [go_sem, h1, Bag.set], by simp [go_sem, h2, Bag.set], by simp [go_sem, h3, Bag.set]⟩, fro_set_of _ f0, fro_set_of _ f1, fro_set_of _ f2, fro_set_of _ f3⟩
  | 3, _ => exact ⟨⟨by simp [go_sem, h0, Bag.set], by simp [go_sem, h1, Bag.set], by simp [go_sem, h2, Bag.set], by simp [go_sem, h3, Bag.set]⟩, fro_set_of _ f0, fro_set_of _ f1, fro_set_of _ f2, fro_set_of _ f3⟩
theorem BagAt.cell {w : World} {b : Nat} {x : Bag} (h : BagAt w b x) : ∀ k, k < 4 → w.cell? ⟨b, k, none⟩ = some (.int .i64 (x.at k)) ∧ w.frozen? ⟨b, k, none⟩ = false
  | 0, _ => ⟨h.1.1, h.2.1⟩
  | 1, _ => ⟨h.1.2.1, h.2.2.1⟩
  | 2, _ => ⟨h.1.2.2.1, h.2.2.2.1⟩
  | 3, _ => ⟨h.1.2.2.2, h.2.2.2.2⟩
  | n + 4, h => absurd h (by omega)

theorem wp_world {P : Program} {c : Code} {Q : Exit → Act → World → Prop} {a : Act} {w : World} (S : World → Prop) (hS : S w) (h : ∀ W1, S W1 → c.wp P Q a W1) : c.wp P Q a w := h w hS
/-- what is left to try -/
def St.spareI (st : St) (x : Bag) (p : Nat) (g : Gd) (i : Int) : Int := if i < 0 then -1 else st.spareN x p g i.toNat
theorem St.spareI_step {st : St} {x : Bag} {p : Nat} {g : Gd} {i : Int} (hi : 0 ≤ i) : st.spareI x p g i = if st.has (x.set p (x.at p + i)) g then i else st.spareI x p g (i - 1) := by
  obtain ⟨k, rfl⟩ := Int.eq_ofNat_of_zero_le hi
  unfold St.spareI
  rw [if_neg (by omega), Int.toNat_natCast]
  cases k with
  | zero => simp [St.spareN]
  | succ k =>
    have h1 : ¬ ((k + 1 : Nat) : Int) - 1 < 0 := by omega
    rw [if_neg h1, St.spareN, show (((k + 1 : Nat) : Int) - 1).toNat = k by omega]

set_option maxRecDepth 100000 in
set_option maxHeartbeats 2000000 in
theorem Spare_yes (st : St) (B : Nat) (pA gA : Option Addr) (pc gc : Nat) (lA : Option Addr) (ln lc : Nat) (X : Nat → Int) (k p : Nat) (W : World) (hs : StRow W B st pA pc gA gc) (hl : IntRow W W.heap.size lA ln X) (hn : ln ≤ 1000)
    (h0 : st.askErr ln X = 0) (hk : k < st.m) (hp : p < st.n) :
    Calls Tryz.prog 39 #[stV pA st.n pc gA st.m gc st.lots, .slice lA ln lc, .int .i64 k, .int .i64 p] W fun e W' => e = .returned (nuV (st.spareR ln X k p)) ∧ Below W.heap.size W W' := by
  have hm1 := hs.m
  have HS := Lib.hid hs; have hB := hs.lt; have HL := Lib.hid hl; clear hs hl
  have hnb : (st.askErr ln X != 0) = false := by simpa using h0
  have hin : inB (k : Int) 0 ((st.m : Int) - 1) = true := by simp [inB]; omega
  have hip : inB (p : Int) 0 ((st.n : Int) - 1) = true := by simp [inB]; omega
  have hk0 : (0 : Int) ≤ (k : Int) := by omega
  have hkm : (k : Int) < (st.m : Int) := by omega
  have hp0 : (0 : Int) ≤ (p : Int) := by omega
  have hp3 : p < 4 := by have := (St.askErr_ok h0).1.n4; omega
  have hp4 : (p : Int) < 4 := by omega
  have HR0 : Hid (st.spareR ln X k p = if st.spareI (bagOf X ln) p (st.G k) (st.all.at p - (bagOf X ln).at p) < 0 then (0, 1) else (st.spareI (bagOf X ln) p (st.G k) (st.all.at p - (bagOf X ln).at p), 0)) := Lib.hid (by
    have hb := (St.askErr_ok h0)
    have hi : (bagOf X ln).in_ st.all := by obtain ⟨_, h, rfl⟩ := hb; exact bagOf_in h
    have h2 := Bag.in_at hi p
    unfold St.spareR St.spareI
    have h3 : ¬ st.all.at p - (bagOf X ln).at p < 0 := by omega
    simp only [Int.toNat_natCast]
    rw [if_neg (by simp [h0]), if_neg (by rw [hin, hip]; simp), if_neg h3])
  have H0 := Lib.hid h0
  clear h0
  go_enter Tryz.func39, Tryz.ntmps39
  go_wp2_with fail
  refine (asked_any st B pA gA pc gc lA ln lc X _ (HS.out.later (by repeat (first | (with_reducible exact Below.refl _ _) | (with_reducible refine Below.drew ?_) | (with_reducible refine below_drewN ?_ _) | ((with_reducible refine below_alloc ?_ ?_ _); · (first | exact Nat.le_refl _ | omega | (simp; done) | (simp; omega) | (simp at *; omega))) | ((with_reducible refine below_set ?_ ?_ _); · (first | exact Nat.le_refl _ | omega | (simp; done) | (simp; omega) | (simp at *; omega))) | ((with_reducible refine below_via (by with_reducible assumption) ?_ ?_); · (first | exact Nat.le_refl _ | omega | (simp; done) | (simp; omega) | (simp at *; omega)))))) (HL.out.later (by repeat (first | (with_reducible exact Below.refl _ _) | (with_reducible refine Below.drew ?_) | (with_reducible refine below_drewN ?_ _) | ((with_reducible refine below_alloc ?_ ?_ _); · (first | exact Nat.le_refl _ | omega | (simp; done) | (simp; omega) | (simp at *; omega))) | ((with_reducible refine below_set ?_ ?_ _); · (first | exact Nat.le_refl _ | omega | (simp; done) | (simp; omega) | (simp at *; omega))) | ((with_reducible refine below_via (by with_reducible assumption) ?_ ?_); · (first | exact Nat.le_refl _ | omega | (simp; done) | (simp; omega) | (simp at *; omega)))))) hn).mono ?_; rintro e w1 ⟨hb1, ⟨h0, db, rfl, hD, hdb⟩ | ⟨h0, p, rfl⟩⟩
  · obtain ⟨hc1, hf1⟩ := bcell hb1; have hz1 := hb1.size; (try simp only [World.size_drew, World.heap_drewN, World.size_alloc] at hz1)
    have HD := Lib.hid hD; have HA := Lib.hid (St.askErr_ok h0); have HI : Hid ((bagOf X ln).in_ st.all) := Lib.hid (by obtain ⟨_, h, rfl⟩ := HA.out; exact bagOf_in h); have HX := Lib.hid (fun k hk => St.in_all HI.out k hk (Nat.lt_of_lt_of_le hk HA.out.1.n4)); have H6 := Lib.hid (St.in_six HA.out.1 HI.out); have hdb2 := hdb; simp only [World.size_alloc] at hdb2
    generalize hxe' : bagOf X ln = x at HI HX H6 ⊢; have hxe := Lib.hid hxe'; clear hxe'
    simp only [World.size_alloc] at hdb
    have hst : StAt w1 W.heap.size pA st.n pc gA st.m gc st.lots := (by (repeat' refine And.intro ?_ ?_) <;> (repeat (first | (with_reducible assumption) | (simp; done) | (with_reducible refine cell_drew_of ?_) | (with_reducible refine cell_drewN_of ?_) | (with_reducible refine cell_below_of (by with_reducible assumption) ?_) | ((with_reducible refine cell_new_of ?_ ?_) <;> (first | (with_reducible rfl) | (simp; done))) | ((with_reducible refine fro_new_of ?_) <;> (first | (with_reducible rfl) | (simp; done))) | (with_reducible refine cell_alloc_of _ ?_) | (with_reducible refine cell_set_of _ (by (first | exact Nat.le_refl _ | omega | (simp; done) | (simp; omega))) ?_) | (with_reducible refine fro_drew_of ?_) | (with_reducible refine fro_drewN_of ?_) | (with_reducible refine fro_below_of (by with_reducible assumption) (by (first | exact Nat.le_refl _ | omega | (simp; done) | (simp; omega))) ?_) | (with_reducible refine fro_alloc_of _ (by (first | exact Nat.le_refl _ | omega | (simp; done) | (simp; omega))) ?_) | (with_reducible refine fro_set_of _ ?_))))
    have hst1 := hst.2.1
    have hy := Lib.hid (show Below W.heap.size W w1 from (by repeat (first | (with_reducible exact Below.refl _ _) | (with_reducible refine Below.drew ?_) | (with_reducible refine below_drewN ?_ _) | ((with_reducible refine below_alloc ?_ ?_ _); · (first | exact Nat.le_refl _ | omega | (simp; done) | (simp; omega) | (simp at *; omega))) | ((with_reducible refine below_set ?_ ?_ _); · (first | exact Nat.le_refl _ | omega | (simp; done) | (simp; omega) | (simp at *; omega))) | ((with_reducible refine below_via (by with_reducible assumption) ?_ ?_); · (first | exact Nat.le_refl _ | omega | (simp; done) | (simp; omega) | (simp at *; omega))))))
    have hs1 := hb1.size
    simp only [World.size_alloc] at hs1
    have hal : Hid (∀ j, j < 4 → w1.cell? ⟨db, 3 + j, none⟩ = some (.int .i64 (st.all.at j))) := Lib.hid (fun j hj => by
      have d := HD.out
      match j, hj with
      | 0, _ => exact d.c0
      | 1, _ => exact d.c1
      | 2, _ => exact d.c2
      | 3, _ => exact d.c3)
    have hdl := HD.out.lt
    clear hc1 hf1 h0 hD
    go_upto_region 6 with (first | (go_at_call 67; refine (in_any _ _ _ _).mono ?_; rintro e w' ⟨rfl, rfl⟩) | (go_at_call 64; refine (picking_any st HA.out.1 db p _ ((HD.out.at (by omega)).later (by repeat (first | (with_reducible exact Below.refl _ _) | (with_reducible refine Below.drew ?_) | (with_reducible refine below_drewN ?_ _) | ((with_reducible refine below_alloc ?_ ?_ _); · (first | exact Nat.le_refl _ | omega | (simp; done) | (simp; omega) | (simp at *; omega))) | ((with_reducible refine below_set ?_ ?_ _); · (first | exact Nat.le_refl _ | omega | (simp; done) | (simp; omega) | (simp at *; omega))) | ((with_reducible refine below_via (by with_reducible assumption) ?_ ?_); · (first | exact Nat.le_refl _ | omega | (simp; done) | (simp; omega) | (simp at *; omega))))))).mono ?_; rintro e w' ⟨rfl, rfl⟩))
    refine wp_world (fun W2 => BagAt W2 w1.heap.size x ∧ Below w1.heap.size w1 W2 ∧ w1.heap.size + 1 ≤ W2.heap.size) ⟨(by (repeat' refine And.intro ?_ ?_) <;> (repeat (first | (with_reducible assumption) | (simp; done) | (with_reducible refine cell_drew_of ?_) | (with_reducible refine cell_drewN_of ?_) | (with_reducible refine cell_below_of (by with_reducible assumption) ?_) | ((with_reducible refine cell_new_of ?_ ?_) <;> (first | (with_reducible rfl) | (simp; done))) | ((with_reducible refine fro_new_of ?_) <;> (first | (with_reducible rfl) | (simp; done))) | (with_reducible refine cell_alloc_of _ ?_) | (with_reducible refine cell_set_of _ (by (first | exact Nat.le_refl _ | omega | (simp; done) | (simp; omega))) ?_) | (with_reducible refine fro_drew_of ?_) | (with_reducible refine fro_drewN_of ?_) | (with_reducible refine fro_below_of (by with_reducible assumption) (by (first | exact Nat.le_refl _ | omega | (simp; done) | (simp; omega))) ?_) | (with_reducible refine fro_alloc_of _ (by (first | exact Nat.le_refl _ | omega | (simp; done) | (simp; omega))) ?_) | (with_reducible refine fro_set_of _ ?_)))), (by repeat (first | (with_reducible exact Below.refl _ _) | (with_reducible refine Below.drew ?_) | (with_reducible refine below_drewN ?_ _) | ((with_reducible refine below_alloc ?_ ?_ _); · (first | exact Nat.le_refl _ | omega | (simp; done) | (simp; omega) | (simp at *; omega))) | ((with_reducible refine below_set ?_ ?_ _); · (first | exact Nat.le_refl _ | omega | (simp; done) | (simp; omega) | (simp at *; omega))) | ((with_reducible refine below_via (by with_reducible assumption) ?_ ?_); · (first | exact Nat.le_refl _ | omega | (simp; done) | (simp; omega) | (simp at *; omega))))), by simp⟩ ?_
    rintro W2 ⟨k1, k2, k3⟩
    have hst2 := hst.later k2
    have hy2 := Lib.hid (hy.out.trans (k2.mono (by omega)))
    have HD2 := Lib.hid (HD.out.later (by omega) k2)
    have a0 := cell_same (k2.block _ hdl) (hal.out p hp3)
    have b0 := (k1.cell p hp3).1
    have hxi := Bag.in_at HI.out p
    have hxa := St.all_bd HA.out.1 p
    have ew : IntKind.i64.wrap (st.all.at p - x.at p) = st.all.at p - x.at p := IntWalk.i64_in _ (by omega)
    clear k2 hst hst1
    go_quiet (fail)
    have K1 := Lib.hid k1
    have HST2 := Lib.hid hst2
    have hbw0 : Below W2.heap.size W2 (W2.drewN nq) := below_drewN (Below.refl _ _) nq
    clear a0 b0 k1 hst2
    go_wp2_with fail
    go_loopw [13] (fun i wr => ∃ n : Int, -1 ≤ n ∧ n ≤ st.all.at p - x.at p ∧ i = .int .i64 n ∧ Hid (st.spareI x p (st.G k) (st.all.at p - x.at p) = st.spareI x p (st.G k) n) ∧ Hid (Below W2.heap.size W2 wr)) (fun i _ => (intOf i + 1).toNat)
    case atStart => exact ⟨_, by omega, by omega, rfl, Lib.hid rfl, Lib.hid hbw0⟩
    case round =>
      obtain ⟨n, hn1, hn2, rfl, hsp, hbw⟩ := hrel
      by_cases hlt : 0 ≤ n
      · have hk1 := K1.out.later hbw.out
        obtain ⟨⟨x0, x1, x2, x3⟩, _⟩ := id hk1
        have hsb := hbw.out.size
        go_upto_region 10 with fail
        refine wp_world (fun W3 => BagAt W3 wr.heap.size x ∧ Below wr.heap.size wr W3) ⟨(by (repeat' refine And.intro ?_ ?_) <;> (repeat (first | (with_reducible assumption) | (simp; done) | (with_reducible refine cell_drew_of ?_) | (with_reducible refine cell_drewN_of ?_) | (with_reducible refine cell_below_of (by with_reducible assumption) ?_) | ((with_reducible refine cell_new_of ?_ ?_) <;> (first | (with_reducible rfl) | (simp; done))) | ((with_reducible refine fro_new_of ?_) <;> (first | (with_reducible rfl) | (simp; done))) | (with_reducible refine cell_alloc_of _ ?_) | (with_reducible refine cell_set_of _ (by (first | exact Nat.le_refl _ | omega | (simp; done) | (simp; omega))) ?_) | (with_reducible refine fro_drew_of ?_) | (with_reducible refine fro_drewN_of ?_) | (with_reducible refine fro_below_of (by with_reducible assumption) (by (first | exact Nat.le_refl _ | omega | (simp; done) | (simp; omega))) ?_) | (with_reducible refine fro_alloc_of _ (by (first | exact Nat.le_refl _ | omega | (simp; done) | (simp; omega))) ?_) | (with_reducible refine fro_set_of _ ?_)))), (by repeat (first | (with_reducible exact Below.refl _ _) | (with_reducible refine Below.drew ?_) | (with_reducible refine below_drewN ?_ _) | ((with_reducible refine below_alloc ?_ ?_ _); · (first | exact Nat.le_refl _ | omega | (simp; done) | (simp; omega) | (simp at *; omega))) | ((with_reducible refine below_set ?_ ?_ _); · (first | exact Nat.le_refl _ | omega | (simp; done) | (simp; omega) | (simp at *; omega))) | ((with_reducible refine below_via (by with_reducible assumption) ?_ ?_); · (first | exact Nat.le_refl _ | omega | (simp; done) | (simp; omega) | (simp at *; omega)))))⟩ ?_
        rintro W3 ⟨k2, k4⟩
        have y0 := (k2.cell p hp3).1
        have y1 := (k2.cell p hp3).2
        have ew2 : IntKind.i64.wrap (x.at p + n) = x.at p + n := IntWalk.i64_in _ (by omega)
        have hs4 := k4.size
        have hl2 := k2.lt
        have hbs := bag_set k2 hp3 (x.at p + n)
        clear x0 x1 x2 x3 k2
        go_upto_region 11 with fail
        refine wp_world (fun W4 => BagAt W4 wr.heap.size (x.set p (x.at p + n)) ∧ Below wr.heap.size wr W4) ⟨hbs, (by repeat (first | (with_reducible exact Below.refl _ _) | (with_reducible refine Below.drew ?_) | (with_reducible refine below_drewN ?_ _) | ((with_reducible refine below_alloc ?_ ?_ _); · (first | exact Nat.le_refl _ | omega | (simp; done) | (simp; omega) | (simp at *; omega))) | ((with_reducible refine below_set ?_ ?_ _); · (first | exact Nat.le_refl _ | omega | (simp; done) | (simp; omega) | (simp at *; omega))) | ((with_reducible refine below_via (by with_reducible assumption) ?_ ?_); · (first | exact Nat.le_refl _ | omega | (simp; done) | (simp; omega) | (simp at *; omega)))))⟩ ?_
        rintro W4 ⟨k5, k6⟩
        clear y0 y1 hbs k4
        have HY := Lib.hid (Bag.set_in HI.out hp3 (v := x.at p + n) (by omega))
        generalize hyy : x.set p (x.at p + n) = y at k5 HY
        have HYY := Lib.hid hyy
        obtain ⟨⟨x0, x1, x2, x3⟩, _⟩ := k5
        have hall := hbw.out.trans (k6.mono hsb)
        have HALL := Lib.hid hall
        have hst4 := (HST2.out.later hall).2.1
        have HD4 := Lib.hid (HD2.out.later (by omega) hall)
        have hyW := Lib.hid (hy2.out.trans (hall.mono (by omega)))
        have hs4 := hall.size
        obtain ⟨gb, go, rfl, hgb, gc0, gc1⟩ := (HS.out.g.below (hyW.out.mono hB)) k hk
        have HG := Lib.hid (HA.out.1.gd k hk)
        have z0 := cell_regrown x0
        have z1 := cell_regrown x1
        have z2 := cell_regrown x2
        have z3 := cell_regrown x3
        have z4 := cell_regrown hst4
        have g0 := cell_regrown gc0
        have g1 := cell_regrown gc1
        clear x0 x1 x2 x3 hst4 gc0 gc1 hall k6 hyy
        refine region_qbw (by kernel_rfl) (by kernel_rfl) ?_
        repeat (first | go_big_quiet_step ((go_at_call 69; exact Calls.regrown_of (has_any st HA.out.1 y (st.G k) HG.out db _ ((HD4.out.at (by omega)).later (below_regrown _ _ _)) HY.out))) | quiet_step ((go_at_call 69; exact Calls.regrown_of (has_any st HA.out.1 y (st.G k) HG.out db _ ((HD4.out.at (by omega)).later (below_regrown _ _ _)) HY.out))))
        refine wpQuiet_nil ?_; intro wq hbq
        clear z0 z1 z2 z3 z4 g0 g1
        have hstep := Lib.hid (St.spareI_step (st := st) (x := x) (p := p) (g := st.G k) hlt)
        have hyQ := Lib.hid (hyW.out.trans (hbq.mono (by omega)))
        have hbQ := Lib.hid (HALL.out.trans (hbq.mono (by omega)))
        cases hh : st.has y (st.G k) with
        | true =>
          have HR : Hid (st.spareR ln X k p = (n, 0)) := Lib.hid (by rw [HR0.out, hxe.out, hsp.out, hstep.out, HYY.out, if_pos hh, if_neg (by omega)])
          clear hh
          go_wp2_with fail
          go_ret2
          exact ⟨by rw [HR.out]; rfl, hyQ.out⟩
        | false =>
          have hnx : Hid (st.spareI x p (st.G k) (st.all.at p - x.at p) = st.spareI x p (st.G k) (n - 1)) := Lib.hid (by rw [hsp.out, hstep.out, HYY.out, if_neg (by rw [hh]; decide)])
          clear hh
          go_wp2_with fail
          go_roundw
          case rel => exact ⟨n - 1, by omega, by omega, rfl, hnx, hbQ⟩
          case measure => simp [intOf]; omega
      · have hn' : n = -1 := by omega
        have HR : Hid (st.spareR ln X k p = (0, 1)) := Lib.hid (by rw [HR0.out, hxe.out, hsp.out, hn']; unfold St.spareI; simp)
        have hyQ := Lib.hid (hy2.out.trans (hbw.out.mono (by omega)))
        clear hn'
        go_wp2_with fail
        go_ret2
        exact ⟨by rw [HR.out]; rfl, hyQ.out⟩
  · exact absurd H0.out h0

/-- lot.Spare -/
theorem Spare_any (st : St) (B : Nat) (pA gA : Option Addr) (pc gc : Nat) (lA : Option Addr) (ln lc : Nat) (X : Nat → Int) (grade p : Int) (W : World) (hs : StRow W B st pA pc gA gc) (hl : IntRow W W.heap.size lA ln X) (hn : ln ≤ 1000) :
    Calls Tryz.prog 39 #[stV pA st.n pc gA st.m gc st.lots, .slice lA ln lc, .int .i64 grade, .int .i64 p] W fun e W' => e = .returned (nuV (st.spareR ln X grade p)) ∧ Below W.heap.size W W' := by
  by_cases hno : st.askErr ln X ≠ 0 ∨ inB grade 0 ((st.m : Int) - 1) = false ∨ inB p 0 (st.n - 1) = false
  · exact Spare_no st B pA gA pc gc lA ln lc X grade p W hs hl hn hno
  · simp only [not_or, Bool.not_eq_false, Decidable.not_not] at hno
    obtain ⟨h0, h1, h2⟩ := hno
    have h3 : 0 ≤ grade ∧ grade ≤ (st.m : Int) - 1 := by simpa [inB] using h1
    have h4 : 0 ≤ p ∧ p ≤ (st.n : Int) - 1 := by simpa [inB] using h2
    obtain ⟨k, rfl⟩ := Int.eq_ofNat_of_zero_le h3.1
    obtain ⟨q, rfl⟩ := Int.eq_ofNat_of_zero_le h4.1
    exact Spare_yes st B pA gA pc gc lA ln lc X k q W hs hl hn h0 (by omega) (by omega)
end Go.Proofs.YtmbkngfcbgbeiaaGreat
