/- Bound of package lot. -/
import Derived.Test.YtmbkngfcbgbeiaaGreatWo
set_option linter.unusedSimpArgs false
set_option linter.unusedVariables false
namespace Go.Proofs.YtmbkngfcbgbeiaaGreat
open Go.RowKit Go.Shelf
attribute [local go_sem] Oper.semAt_some

/-- what a bag costs -/
def costN (X : Nat → Int) (x : Bag) (n : Nat) : Int := sumN (fun j => X j * x.at j) n
theorem costN_bd {X : Nat → Int} {x : Bag} {n : Nat} (hX : ∀ k, k < n → 0 ≤ X k ∧ X k ≤ 100) (hx : ∀ k, 0 ≤ x.at k ∧ x.at k ≤ 6) : 0 ≤ costN X x n ∧ costN X x n ≤ 600 * (n : Int) :=
  sumN_bd2 _ n 600 (fun k hk => mul_bd (hX k hk) (hx k))

set_option maxRecDepth 100000 in
set_option maxHeartbeats 1000000 in
/-- lot.Bound$2 -/
theorem cost_any (x : Bag) (hx : ∀ k, 0 ≤ x.at k ∧ x.at k ≤ 6) (lA : Option Addr) (ln lc : Nat) (X : Nat → Int) (hX : ∀ k, k < ln → 0 ≤ X k ∧ X k ≤ 100) (hn : ln ≤ 4) (pb : Nat) (W : World) (hl : IntRow W W.heap.size lA ln X) (hp : W.cell? ⟨pb, 0, none⟩ = some (.slice lA ln lc)) :
    Calls Tryz.prog 74 #[bagV x, .pointer (some ⟨pb, 0, none⟩)] W fun e W' => e = .returned (.int .i64 (costN X x ln)) ∧ Below W.heap.size W W' := by
  have HX := Lib.hid hX
  have Hx := Lib.hid hx
  have HL := Lib.hid hl
  have hpl : pb < W.heap.size := World.block_lt_of_cell? W _ hp
  clear hX hx hl
  go_enter Tryz.func74, Tryz.ntmps74
  go_wp2_with fail
  go_loopw [4, 5, 6, 9] (fun t u v i wr => ∃ k : Nat, k ≤ ln ∧ i = .int .i64 k ∧ t = .int .i64 (costN X x k) ∧ Hid (Below W.heap.size W wr) ∧ Hid (BagC wr W.heap.size x)) (fun _ _ _ i _ => ln - (intOf i).toNat)
  case atStart => exact ⟨0, Nat.zero_le _, rfl, rfl, Lib.hid (by repeat (first | (with_reducible exact Below.refl _ _) | (with_reducible refine Below.drew ?_) | (with_reducible refine below_drewN ?_ _) | ((with_reducible refine below_alloc ?_ ?_ _); · (first | exact Nat.le_refl _ | omega | (simp; done) | (simp; omega) | (simp at *; omega))) | ((with_reducible refine below_set ?_ ?_ _); · (first | exact Nat.le_refl _ | omega | (simp; done) | (simp; omega) | (simp at *; omega))) | ((with_reducible refine below_via (by with_reducible assumption) ?_ ?_); · (first | exact Nat.le_refl _ | omega | (simp; done) | (simp; omega) | (simp at *; omega))))), Lib.hid (by unfold BagC; refine at4' ?_ ?_ ?_ ?_ <;> (repeat (first | (with_reducible assumption) | (simp; done) | (with_reducible refine cell_drew_of ?_) | (with_reducible refine cell_drewN_of ?_) | (with_reducible refine cell_below_of (by with_reducible assumption) ?_) | ((with_reducible refine cell_new_of ?_ ?_) <;> (first | (with_reducible rfl) | (simp; done))) | ((with_reducible refine fro_new_of ?_) <;> (first | (with_reducible rfl) | (simp; done))) | (with_reducible refine cell_alloc_of _ ?_) | (with_reducible refine cell_set_of _ (by (first | exact Nat.le_refl _ | omega | (simp; done) | (simp; omega))) ?_) | (with_reducible refine fro_drew_of ?_) | (with_reducible refine fro_drewN_of ?_) | (with_reducible refine fro_below_of (by with_reducible assumption) (by (first | exact Nat.le_refl _ | omega | (simp; done) | (simp; omega))) ?_) | (with_reducible refine fro_alloc_of _ (by (first | exact Nat.le_refl _ | omega | (simp; done) | (simp; omega))) ?_) | (with_reducible refine fro_set_of _ ?_))))⟩
  case round =>
    obtain ⟨k, hk, rfl, rfl, hbw, hbg⟩ := hrel
    by_cases hlt : k < ln
    · obtain ⟨b, o, rfl, hb', c0⟩ := (HL.out.below hbw.out) k hlt
      have hk4 : (k : Int) < 4 := by omega
      have hk0 : (0 : Int) ≤ (k : Int) := by omega
      have c1 := hbg.out k (by omega)
      have bx := Hx.out k
      have bX := HX.out k hlt
      have bm := mul_bd bX bx
      have bc := costN_bd (n := k) (fun j hj => HX.out j (by omega)) Hx.out
      have ew : IntKind.i64.wrap (X k * x.at k) = X k * x.at k := IntWalk.i64_in _ (by omega)
      have hs1 := hbw.out.size
      have hbl := hbg.out.lt
      go_wp2_with (go_at_call 59; refine (sum2n _ _ _ _ _ (by omega) (by omega)).mono ?_; rintro e w' ⟨rfl, rfl⟩)
      have hbo := hbw.out
      go_roundw
      case rel => exact ⟨k + 1, by omega, by go_num, rfl, Lib.hid (by repeat (first | (with_reducible exact Below.refl _ _) | (with_reducible refine Below.drew ?_) | (with_reducible refine below_drewN ?_ _) | ((with_reducible refine below_alloc ?_ ?_ _); · (first | exact Nat.le_refl _ | omega | (simp; done) | (simp; omega) | (simp at *; omega))) | ((with_reducible refine below_set ?_ ?_ _); · (first | exact Nat.le_refl _ | omega | (simp; done) | (simp; omega) | (simp at *; omega))) | ((with_reducible refine below_via (by with_reducible assumption) ?_ ?_); · (first | exact Nat.le_refl _ | omega | (simp; done) | (simp; omega) | (simp at *; omega))))), Lib.hid (hbg.out.same (Below.heap_alloc _ _ _ hbl))⟩
      case measure => simp [intOf]; omega
    · have hbo := hbw.out
      go_wp2_with fail
      go_ret
      exact ⟨ret_int (by rw [show k = ln from by omega]), hbo⟩

set_option maxRecDepth 100000 in
set_option maxHeartbeats 1000000 in
/-- lot.Bound$1 -/
theorem bound1 (n : Int) (W : World) : Calls Tryz.prog 73 #[.int .i64 n] W fun e W' => e = .returned (.bool (inB n 0 100)) ∧ Below W.heap.size W W' := by
  go_enter Tryz.func73, Tryz.ntmps73
  go_wp2_with (go_at_call 67; refine (in_any _ _ _ _).mono ?_; rintro e w' ⟨rfl, rfl⟩)
  go_ret
  exact ⟨rfl, (by repeat (first | (with_reducible exact Below.refl _ _) | (with_reducible refine Below.drew ?_) | (with_reducible refine below_drewN ?_ _) | ((with_reducible refine below_alloc ?_ ?_ _); · (first | exact Nat.le_refl _ | omega | (simp; done) | (simp; omega) | (simp at *; omega))) | ((with_reducible refine below_set ?_ ?_ _); · (first | exact Nat.le_refl _ | omega | (simp; done) | (simp; omega) | (simp at *; omega))) | ((with_reducible refine below_via (by with_reducible assumption) ?_ ?_); · (first | exact Nat.le_refl _ | omega | (simp; done) | (simp; omega) | (simp at *; omega)))))⟩

/-- prices bound the bags of a list -/
def St.fits (st : St) (X : Nat → Int) (n : Nat) (l : List Bag) : Bool := l.all fun b => decide (st.brings b ≤ costN X b n)
def St.boundErr (st : St) (n : Nat) (X : Nat → Int) : Int :=
  if st.check ≠ 0 then st.check else if n ≠ st.n then 3 else if allN (fun k => inB (X k) 0 100) n = false then 4 else if st.fits X n (bagsOf st.all) = false then 8 else 0
def St.boundR (st : St) (n : Nat) (X : Nat → Int) : Int × Int := if st.boundErr n X ≠ 0 then (0, st.boundErr n X) else (costN X st.all n, 0)
theorem St.fits_snoc (st : St) (X : Nat → Int) (n : Nat) (l : List Bag) (b : Bag) : st.fits X n (l ++ [b]) = (st.fits X n l && decide (st.brings b ≤ costN X b n)) := by simp [St.fits]
theorem St.fits_prefix {st : St} {X : Nat → Int} {n : Nat} {l m : List Bag} (h : l <+: m) (hf : st.fits X n l = false) : st.fits X n m = false := by
  obtain ⟨t, rfl⟩ := h
  simp only [St.fits, List.all_append] at hf ⊢
  rw [hf]; rfl

set_option maxRecDepth 100000 in
set_option maxHeartbeats 2000000 in
theorem Bound_no (st : St) (B : Nat) (pA gA : Option Addr) (pc gc : Nat) (lA : Option Addr) (ln lc : Nat) (X : Nat → Int) (W : World) (hs : StRow W B st pA pc gA gc) (hl : IntRow W W.heap.size lA ln X) (hn : ln ≤ 1000) (hlc : ln ≤ lc)
    (hno : st.check ≠ 0 ∨ ln ≠ st.n ∨ allN (fun k => inB (X k) 0 100) ln = false) :
    Calls Tryz.prog 45 #[stV pA st.n pc gA st.m gc st.lots, .slice lA ln lc] W fun e W' => e = .returned (nuV (st.boundR ln X)) ∧ Below W.heap.size W W' := by
  have HS := Lib.hid hs; have hB := hs.lt; have HL := Lib.hid hl; clear hs hl
  by_cases h0 : st.check = 0
  · have hnb : (st.check != 0) = false := by simpa using h0
    have hok := Lib.hid (St.check_ok.1 h0)
    by_cases h1 : ln = st.n
    · have hal : allN (fun k => inB (X k) 0 100) ln = false := by rcases hno with h | h | h; exact absurd h0 h; exact absurd h1 h; exact h
      have HR : Hid (st.boundR ln X = (0, 4)) := Lib.hid (by
        have he : st.boundErr ln X = 4 := by unfold St.boundErr; rw [if_neg (by simp [h0]), if_neg (by simp [h1]), if_pos hal]
        unfold St.boundR; rw [he]; rfl)
      have hne : ((ln : Int) != (st.n : Int)) = false := by simp [h1]
      have hn4 := hok.out.n4
      have hl4 : ln ≤ 4 := by omega
      clear h0 hno h1
      go_enter Tryz.func45, Tryz.ntmps45
      go_wp2_with fail
      go_step3
      go_wp2_with fail
      refine (opened_st st B pA gA pc gc _ (HS.out.later (by repeat (first | (with_reducible exact Below.refl _ _) | (with_reducible refine Below.drew ?_) | (with_reducible refine below_drewN ?_ _) | ((with_reducible refine below_alloc ?_ ?_ _); · (first | exact Nat.le_refl _ | omega | (simp; done) | (simp; omega) | (simp at *; omega))) | ((with_reducible refine below_set ?_ ?_ _); · (first | exact Nat.le_refl _ | omega | (simp; done) | (simp; omega) | (simp at *; omega))) | ((with_reducible refine below_via (by with_reducible assumption) ?_ ?_); · (first | exact Nat.le_refl _ | omega | (simp; done) | (simp; omega) | (simp at *; omega))))))).mono ?_
      rintro e w1 ⟨hb1, ⟨_, db, rfl, hD, hdb⟩ | ⟨hne, rfl⟩⟩
      · obtain ⟨hc1, hf1⟩ := bcell hb1; have hz1 := hb1.size; (try simp only [World.size_drew, World.heap_drewN, World.size_alloc] at hz1)
        go_wp2_with fail
        refine (every_int lA ln lc X _ ((HL.out.later (show Below W.heap.size W _ from (by repeat (first | (with_reducible exact Below.refl _ _) | (with_reducible refine Below.drew ?_) | (with_reducible refine below_drewN ?_ _) | ((with_reducible refine below_alloc ?_ ?_ _); · (first | exact Nat.le_refl _ | omega | (simp; done) | (simp; omega) | (simp at *; omega))) | ((with_reducible refine below_set ?_ ?_ _); · (first | exact Nat.le_refl _ | omega | (simp; done) | (simp; omega) | (simp at *; omega))) | ((with_reducible refine below_via (by with_reducible assumption) ?_ ?_); · (first | exact Nat.le_refl _ | omega | (simp; done) | (simp; omega) | (simp at *; omega)))))))) (by omega) 73 (fun k => inB (X k) 0 100) (enters_of Tryz.func73 (by kernel_rfl) rfl) (fun k hk w => bound1 (X k) w)).mono ?_
        rintro e w2 ⟨rfl, hb2⟩
        rw [hal]
        go_wp2_with fail
        (rw [Exit.noGoto_ret]; go_ret2)
        exact ⟨by rw [HR.out]; rfl, (by repeat (first | (with_reducible exact Below.refl _ _) | (with_reducible refine Below.drew ?_) | (with_reducible refine below_drewN ?_ _) | ((with_reducible refine below_alloc ?_ ?_ _); · (first | exact Nat.le_refl _ | omega | (simp; done) | (simp; omega) | (simp at *; omega))) | ((with_reducible refine below_set ?_ ?_ _); · (first | exact Nat.le_refl _ | omega | (simp; done) | (simp; omega) | (simp at *; omega))) | ((with_reducible refine below_via (by with_reducible assumption) ?_ ?_); · (first | exact Nat.le_refl _ | omega | (simp; done) | (simp; omega) | (simp at *; omega)))))⟩
      · exact absurd (St.check_ok.2 hok.out) hne
    · have HR : Hid (st.boundR ln X = (0, 3)) := Lib.hid (by
        have he : st.boundErr ln X = 3 := by unfold St.boundErr; rw [if_neg (by simp [h0]), if_pos h1]
        unfold St.boundR; rw [he]; rfl)
      have hne : ((ln : Int) != (st.n : Int)) = true := by rw [bne_iff_ne]; omega
      clear h0 hno h1
      go_enter Tryz.func45, Tryz.ntmps45
      go_wp2_with fail
      go_step3
      go_wp2_with fail
      refine (opened_st st B pA gA pc gc _ (HS.out.later (by repeat (first | (with_reducible exact Below.refl _ _) | (with_reducible refine Below.drew ?_) | (with_reducible refine below_drewN ?_ _) | ((with_reducible refine below_alloc ?_ ?_ _); · (first | exact Nat.le_refl _ | omega | (simp; done) | (simp; omega) | (simp at *; omega))) | ((with_reducible refine below_set ?_ ?_ _); · (first | exact Nat.le_refl _ | omega | (simp; done) | (simp; omega) | (simp at *; omega))) | ((with_reducible refine below_via (by with_reducible assumption) ?_ ?_); · (first | exact Nat.le_refl _ | omega | (simp; done) | (simp; omega) | (simp at *; omega))))))).mono ?_
      rintro e w1 ⟨hb1, ⟨_, db, rfl, hD, hdb⟩ | ⟨hne, rfl⟩⟩
      · obtain ⟨hc1, hf1⟩ := bcell hb1; have hz1 := hb1.size; (try simp only [World.size_drew, World.heap_drewN, World.size_alloc] at hz1)
        go_wp2_with fail
        (rw [Exit.noGoto_ret]; go_ret2)
        exact ⟨by rw [HR.out]; rfl, (by repeat (first | (with_reducible exact Below.refl _ _) | (with_reducible refine Below.drew ?_) | (with_reducible refine below_drewN ?_ _) | ((with_reducible refine below_alloc ?_ ?_ _); · (first | exact Nat.le_refl _ | omega | (simp; done) | (simp; omega) | (simp at *; omega))) | ((with_reducible refine below_set ?_ ?_ _); · (first | exact Nat.le_refl _ | omega | (simp; done) | (simp; omega) | (simp at *; omega))) | ((with_reducible refine below_via (by with_reducible assumption) ?_ ?_); · (first | exact Nat.le_refl _ | omega | (simp; done) | (simp; omega) | (simp at *; omega)))))⟩
      · exact absurd (St.check_ok.2 hok.out) hne
  · have hnb : (st.check != 0) = true := by simpa using h0
    have HR : Hid (st.boundR ln X = (0, st.check)) := Lib.hid (by
        have he : st.boundErr ln X = st.check := by unfold St.boundErr; rw [if_pos h0]
        unfold St.boundR; rw [he, if_pos h0])
    have H0 := Lib.hid h0
    clear h0 hno
    go_enter Tryz.func45, Tryz.ntmps45
    go_wp2_with fail
    go_step3
    go_wp2_with fail
    refine (opened_st st B pA gA pc gc _ (HS.out.later (by repeat (first | (with_reducible exact Below.refl _ _) | (with_reducible refine Below.drew ?_) | (with_reducible refine below_drewN ?_ _) | ((with_reducible refine below_alloc ?_ ?_ _); · (first | exact Nat.le_refl _ | omega | (simp; done) | (simp; omega) | (simp at *; omega))) | ((with_reducible refine below_set ?_ ?_ _); · (first | exact Nat.le_refl _ | omega | (simp; done) | (simp; omega) | (simp at *; omega))) | ((with_reducible refine below_via (by with_reducible assumption) ?_ ?_); · (first | exact Nat.le_refl _ | omega | (simp; done) | (simp; omega) | (simp at *; omega))))))).mono ?_
    rintro e w1 ⟨hb1, ⟨hok, db, rfl, hD, hdb⟩ | ⟨hne, rfl⟩⟩
    · exact absurd (St.check_ok.2 hok) H0.out
    · obtain ⟨hc1, hf1⟩ := bcell hb1; have hz1 := hb1.size; (try simp only [World.size_drew, World.heap_drewN, World.size_alloc] at hz1)
      clear hne
      go_wp2_with fail
      (rw [Exit.noGoto_ret]; go_ret2)
      exact ⟨by rw [HR.out]; rfl, (by repeat (first | (with_reducible exact Below.refl _ _) | (with_reducible refine Below.drew ?_) | (with_reducible refine below_drewN ?_ _) | ((with_reducible refine below_alloc ?_ ?_ _); · (first | exact Nat.le_refl _ | omega | (simp; done) | (simp; omega) | (simp at *; omega))) | ((with_reducible refine below_set ?_ ?_ _); · (first | exact Nat.le_refl _ | omega | (simp; done) | (simp; omega) | (simp at *; omega))) | ((with_reducible refine below_via (by with_reducible assumption) ?_ ?_); · (first | exact Nat.le_refl _ | omega | (simp; done) | (simp; omega) | (simp at *; omega)))))⟩

set_option maxRecDepth 100000 in
set_option maxHeartbeats 2000000 in
theorem Bound_yes (st : St) (B : Nat) (pA gA : Option Addr) (pc gc : Nat) (lA : Option Addr) (lc : Nat) (X : Nat → Int) (W : World) (hs : StRow W B st pA pc gA gc) (hl : IntRow W W.heap.size lA st.n X) (hlc : st.n ≤ lc)
    (hok : st.ok) (hX : ∀ k, k < st.n → 0 ≤ X k ∧ X k ≤ 100) :
    Calls Tryz.prog 45 #[stV pA st.n pc gA st.m gc st.lots, .slice lA st.n lc] W fun e W' => e = .returned (nuV (st.boundR st.n X)) ∧ Below W.heap.size W W' := by
  have n4 := hok.n4
  have hnb : (st.check != 0) = false := by simp [St.check_ok.2 hok]
  have hal : allN (fun k => inB (X k) 0 100) st.n = true := allN_iff.2 (fun k hk => by have := hX k hk; simp [inB]; omega)
  have HR0 : Hid (st.boundErr st.n X = if st.fits X st.n (bagsOf st.all) = false then 8 else 0) := Lib.hid (by unfold St.boundErr; rw [if_neg (by simp [St.check_ok.2 hok]), if_neg (by simp), if_neg (by rw [hal]; decide)])
  have HAL := Lib.hid hal
  have HXX := Lib.hid hX
  have HO := Lib.hid hok
  have HS := Lib.hid hs; have hB := hs.lt; have HL := Lib.hid hl; clear hs hl
  clear hok hX hal
  refine calls_of_wp_marks Tryz.func45 rfl ?_; simp only [Tryz.ntmps45, List.size_toArray, List.length_cons, List.length_nil, Nat.reduceAdd, Nat.reduceSub, Array.replicate_succ, Array.replicate_zero, List.push_toArray, List.append_toArray, List.nil_append, List.cons_append]
  go_wp2_with fail
  go_step3
  go_wp2_with fail
  refine (opened_st st B pA gA pc gc _ (HS.out.later (by repeat (first | (with_reducible exact Below.refl _ _) | (with_reducible refine Below.drew ?_) | (with_reducible refine below_drewN ?_ _) | ((with_reducible refine below_alloc ?_ ?_ _); · (first | exact Nat.le_refl _ | omega | (simp; done) | (simp; omega) | (simp at *; omega))) | ((with_reducible refine below_set ?_ ?_ _); · (first | exact Nat.le_refl _ | omega | (simp; done) | (simp; omega) | (simp at *; omega))) | ((with_reducible refine below_via (by with_reducible assumption) ?_ ?_); · (first | exact Nat.le_refl _ | omega | (simp; done) | (simp; omega) | (simp at *; omega))))))).mono ?_
  rintro e w1 ⟨hb1, ⟨_, db, rfl, hD, hdb⟩ | ⟨hne, rfl⟩⟩
  · obtain ⟨hc1, hf1⟩ := bcell hb1; have hz1 := hb1.size; (try simp only [World.size_drew, World.heap_drewN, World.size_alloc] at hz1)
    have HD := Lib.hid hD
    simp only [World.size_alloc] at hdb
    have hst : StAt w1 W.heap.size pA st.n pc gA st.m gc st.lots := (by (repeat' refine And.intro ?_ ?_) <;> (repeat (first | (with_reducible assumption) | (simp; done) | (with_reducible refine cell_drew_of ?_) | (with_reducible refine cell_drewN_of ?_) | (with_reducible refine cell_below_of (by with_reducible assumption) ?_) | ((with_reducible refine cell_new_of ?_ ?_) <;> (first | (with_reducible rfl) | (simp; done))) | ((with_reducible refine fro_new_of ?_) <;> (first | (with_reducible rfl) | (simp; done))) | (with_reducible refine cell_alloc_of _ ?_) | (with_reducible refine cell_set_of _ (by (first | exact Nat.le_refl _ | omega | (simp; done) | (simp; omega))) ?_) | (with_reducible refine fro_drew_of ?_) | (with_reducible refine fro_drewN_of ?_) | (with_reducible refine fro_below_of (by with_reducible assumption) (by (first | exact Nat.le_refl _ | omega | (simp; done) | (simp; omega))) ?_) | (with_reducible refine fro_alloc_of _ (by (first | exact Nat.le_refl _ | omega | (simp; done) | (simp; omega))) ?_) | (with_reducible refine fro_set_of _ ?_))))
    have hpr : V1At w1 (W.heap.size + 1) (.slice lA st.n lc) := (by (repeat' refine And.intro ?_ ?_) <;> (repeat (first | (with_reducible assumption) | (simp; done) | (with_reducible refine cell_drew_of ?_) | (with_reducible refine cell_drewN_of ?_) | (with_reducible refine cell_below_of (by with_reducible assumption) ?_) | ((with_reducible refine cell_new_of ?_ ?_) <;> (first | (with_reducible rfl) | (simp; done))) | ((with_reducible refine fro_new_of ?_) <;> (first | (with_reducible rfl) | (simp; done))) | (with_reducible refine cell_alloc_of _ ?_) | (with_reducible refine cell_set_of _ (by (first | exact Nat.le_refl _ | omega | (simp; done) | (simp; omega))) ?_) | (with_reducible refine fro_drew_of ?_) | (with_reducible refine fro_drewN_of ?_) | (with_reducible refine fro_below_of (by with_reducible assumption) (by (first | exact Nat.le_refl _ | omega | (simp; done) | (simp; omega))) ?_) | (with_reducible refine fro_alloc_of _ (by (first | exact Nat.le_refl _ | omega | (simp; done) | (simp; omega))) ?_) | (with_reducible refine fro_set_of _ ?_))))
    have hy := Lib.hid (show Below W.heap.size W w1 from (by repeat (first | (with_reducible exact Below.refl _ _) | (with_reducible refine Below.drew ?_) | (with_reducible refine below_drewN ?_ _) | ((with_reducible refine below_alloc ?_ ?_ _); · (first | exact Nat.le_refl _ | omega | (simp; done) | (simp; omega) | (simp at *; omega))) | ((with_reducible refine below_set ?_ ?_ _); · (first | exact Nat.le_refl _ | omega | (simp; done) | (simp; omega) | (simp at *; omega))) | ((with_reducible refine below_via (by with_reducible assumption) ?_ ?_); · (first | exact Nat.le_refl _ | omega | (simp; done) | (simp; omega) | (simp at *; omega))))))
    clear hD
    go_wp2_with fail
    refine (every_int lA st.n lc X _ ((HL.out.later (show Below W.heap.size W _ from (by repeat (first | (with_reducible exact Below.refl _ _) | (with_reducible refine Below.drew ?_) | (with_reducible refine below_drewN ?_ _) | ((with_reducible refine below_alloc ?_ ?_ _); · (first | exact Nat.le_refl _ | omega | (simp; done) | (simp; omega) | (simp at *; omega))) | ((with_reducible refine below_set ?_ ?_ _); · (first | exact Nat.le_refl _ | omega | (simp; done) | (simp; omega) | (simp at *; omega))) | ((with_reducible refine below_via (by with_reducible assumption) ?_ ?_); · (first | exact Nat.le_refl _ | omega | (simp; done) | (simp; omega) | (simp at *; omega)))))))) (by omega) 73 (fun k => inB (X k) 0 100) (enters_of Tryz.func73 (by kernel_rfl) rfl) (fun k hk w => bound1 (X k) w)).mono ?_
    rintro e w2 ⟨rfl, hb2⟩
    rw [HAL.out]
    have hg2 : Below w1.heap.size w1 w2 := (by repeat (first | (with_reducible exact Below.refl _ _) | (with_reducible refine Below.drew ?_) | (with_reducible refine below_drewN ?_ _) | ((with_reducible refine below_alloc ?_ ?_ _); · (first | exact Nat.le_refl _ | omega | (simp; done) | (simp; omega) | (simp at *; omega))) | ((with_reducible refine below_set ?_ ?_ _); · (first | exact Nat.le_refl _ | omega | (simp; done) | (simp; omega) | (simp at *; omega))) | ((with_reducible refine below_via (by with_reducible assumption) ?_ ?_); · (first | exact Nat.le_refl _ | omega | (simp; done) | (simp; omega) | (simp at *; omega)))))
    have hdv := (show V1At (w1.alloc (.cells #[.pointer (some ⟨db, 0, none⟩)] 82)) w1.heap.size (.pointer (some ⟨db, 0, none⟩)) from (by (repeat' refine And.intro ?_ ?_) <;> (repeat (first | (with_reducible assumption) | (simp; done) | (with_reducible refine cell_drew_of ?_) | (with_reducible refine cell_drewN_of ?_) | (with_reducible refine cell_below_of (by with_reducible assumption) ?_) | ((with_reducible refine cell_new_of ?_ ?_) <;> (first | (with_reducible rfl) | (simp; done))) | ((with_reducible refine fro_new_of ?_) <;> (first | (with_reducible rfl) | (simp; done))) | (with_reducible refine cell_alloc_of _ ?_) | (with_reducible refine cell_set_of _ (by (first | exact Nat.le_refl _ | omega | (simp; done) | (simp; omega))) ?_) | (with_reducible refine fro_drew_of ?_) | (with_reducible refine fro_drewN_of ?_) | (with_reducible refine fro_below_of (by with_reducible assumption) (by (first | exact Nat.le_refl _ | omega | (simp; done) | (simp; omega))) ?_) | (with_reducible refine fro_alloc_of _ (by (first | exact Nat.le_refl _ | omega | (simp; done) | (simp; omega))) ?_) | (with_reducible refine fro_set_of _ ?_))))).later hb2
    have hs2 := hb2.size
    simp only [World.size_alloc] at hs2
    have HD2 := HD.out.later (by omega) hg2
    have c0 := HD2.c0
    have c1 := HD2.c1
    have c2 := HD2.c2
    have c3 := HD2.c3
    have v0 := hdv.1
    have HD2 := Lib.hid HD2
    clear hc1 hf1 hb1 hb2
    go_wp2_with fail
    go_step3
    go_wp2_with fail
    refine (within_any st.all _).mono ?_
    rintro e w3 ⟨rfl, hbag, hsz, hb3⟩
    have hok3 : V1At w3 (w2.heap.size + 1) (.bool true) := (show V1At ((w2.alloc (.cells #[.func (.func 74) #[] #[.pointer (some ⟨W.heap.size + 1, 0, none⟩)]] 129)).alloc (.cells #[.bool true] 4)) (w2.heap.size + 1) _ from (by (repeat' refine And.intro ?_ ?_) <;> (repeat (first | (with_reducible assumption) | (simp; done) | (with_reducible refine cell_drew_of ?_) | (with_reducible refine cell_drewN_of ?_) | (with_reducible refine cell_below_of (by with_reducible assumption) ?_) | ((with_reducible refine cell_new_of ?_ ?_) <;> (first | (with_reducible rfl) | (simp; done))) | ((with_reducible refine fro_new_of ?_) <;> (first | (with_reducible rfl) | (simp; done))) | (with_reducible refine cell_alloc_of _ ?_) | (with_reducible refine cell_set_of _ (by (first | exact Nat.le_refl _ | omega | (simp; done) | (simp; omega))) ?_) | (with_reducible refine fro_drew_of ?_) | (with_reducible refine fro_drewN_of ?_) | (with_reducible refine fro_below_of (by with_reducible assumption) (by (first | exact Nat.le_refl _ | omega | (simp; done) | (simp; omega))) ?_) | (with_reducible refine fro_alloc_of _ (by (first | exact Nat.le_refl _ | omega | (simp; done) | (simp; omega))) ?_) | (with_reducible refine fro_set_of _ ?_))))).later hb3
    have hco3 : V1At w3 w2.heap.size (.func (.func 74) #[] #[.pointer (some ⟨W.heap.size + 1, 0, none⟩)]) := (show V1At ((w2.alloc (.cells #[.func (.func 74) #[] #[.pointer (some ⟨W.heap.size + 1, 0, none⟩)]] 129)).alloc (.cells #[.bool true] 4)) w2.heap.size _ from (by (repeat' refine And.intro ?_ ?_) <;> (repeat (first | (with_reducible assumption) | (simp; done) | (with_reducible refine cell_drew_of ?_) | (with_reducible refine cell_drewN_of ?_) | (with_reducible refine cell_below_of (by with_reducible assumption) ?_) | ((with_reducible refine cell_new_of ?_ ?_) <;> (first | (with_reducible rfl) | (simp; done))) | ((with_reducible refine fro_new_of ?_) <;> (first | (with_reducible rfl) | (simp; done))) | (with_reducible refine cell_alloc_of _ ?_) | (with_reducible refine cell_set_of _ (by (first | exact Nat.le_refl _ | omega | (simp; done) | (simp; omega))) ?_) | (with_reducible refine fro_drew_of ?_) | (with_reducible refine fro_drewN_of ?_) | (with_reducible refine fro_below_of (by with_reducible assumption) (by (first | exact Nat.le_refl _ | omega | (simp; done) | (simp; omega))) ?_) | (with_reducible refine fro_alloc_of _ (by (first | exact Nat.le_refl _ | omega | (simp; done) | (simp; omega))) ?_) | (with_reducible refine fro_set_of _ ?_))))).later hb3
    have hg3 : Below w2.heap.size w2 w3 := (by repeat (first | (with_reducible exact Below.refl _ _) | (with_reducible refine Below.drew ?_) | (with_reducible refine below_drewN ?_ _) | ((with_reducible refine below_alloc ?_ ?_ _); · (first | exact Nat.le_refl _ | omega | (simp; done) | (simp; omega) | (simp at *; omega))) | ((with_reducible refine below_set ?_ ?_ _); · (first | exact Nat.le_refl _ | omega | (simp; done) | (simp; omega) | (simp at *; omega))) | ((with_reducible refine below_via (by with_reducible assumption) ?_ ?_); · (first | exact Nat.le_refl _ | omega | (simp; done) | (simp; omega) | (simp at *; omega)))))
    simp only [World.size_alloc] at hsz hbag
    have hs3 : w2.heap.size + 1 + 1 + 1 ≤ w3.heap.size := by omega
    have hdv3 := hdv.later hg3
    have hpr3 := (hpr.later hg2).later hg3
    have HD3 := HD2.out.later (by omega) hg3
    have hy3 := hy.out.trans ((hg2.trans (hg3.mono (by omega))).mono (by omega))
    clear hsz hb3 c0 c1 c2 c3 v0
    have hcf : ∀ args w, (callFunc 74 args).run Tryz.prog w = .ok (.enter 74 args) w := enters_of Tryz.func74 (by kernel_rfl) rfl
    have hdl := HD.out.lt
    go_wp2_with fail
    refine wp_within st.all (fun k _ => St.all_bd HO.out k) (w2.heap.size + 1 + 1) rfl rfl
      (fun pre Wx => (V1At Wx (w2.heap.size + 1) (.bool true) ∧ st.fits X st.n pre = true) ∧ V1At Wx w1.heap.size (.pointer (some ⟨db, 0, none⟩)) ∧ V1At Wx w2.heap.size (.func (.func 74) #[] #[.pointer (some ⟨W.heap.size + 1, 0, none⟩)]) ∧ V1At Wx (W.heap.size + 1) (.slice lA st.n lc) ∧ BagC Wx (w2.heap.size + 1 + 1) st.all ∧ DeskOf Wx B db st ∧ Below W.heap.size W Wx ∧ w3.heap.size ≤ Wx.heap.size)
      (fun c pre Wx => (c = .exit 1 ∧ st.fits X st.n pre = false ∧ V1At Wx (w2.heap.size + 1) (.bool false)) ∧ Below W.heap.size W Wx ∧ w3.heap.size ≤ Wx.heap.size)
      (fun s A C ⟨h1, h2, h3, h4, h5, h6, h7, h8⟩ hb => ⟨⟨h1.1.same (hb.block _ (by omega)), h1.2⟩, h2.same (hb.block _ (by omega)), h3.same (hb.block _ (by omega)), h4.same (hb.block _ (by omega)), h5.same (hb.block _ (by omega)), h6.below hb (by omega) (by omega) hb.size, h7.trans (hb.mono (by omega)), Nat.le_trans h8 hb.size⟩)
      (fun c s A C ⟨h1, h7, h8⟩ hb => ⟨⟨h1.1, h1.2.1, h1.2.2.same (hb.block _ (by omega))⟩, h7.trans (hb.mono (by omega)), Nat.le_trans h8 hb.size⟩)
      (fun _ _ h => h.2.2.2.2.1) ⟨⟨hok3, rfl⟩, hdv3, hco3, hpr3, hbag, HD3, hy3, Nat.le_refl _⟩
      ?fr ?assign ?body ?done ?stop
    case assign =>
      intro l pre x Wr K hi hK
      have HK := Lib.hid hK
      clear hK hi
      gi_wp2
      obtain ⟨Bx, hBx⟩ : ∃ Bx, Bx = Wr.heap.size := ⟨_, rfl⟩
      rw [← hBx]
      refine HK.out Bx _ hBx ?_ ?_
      · exact (by repeat (first | (with_reducible exact Below.refl _ _) | (with_reducible refine Below.drew ?_) | (with_reducible refine below_drewN ?_ _) | ((with_reducible refine below_alloc ?_ ?_ _); · (first | exact Nat.le_refl _ | omega | (simp; done) | (simp; omega) | (simp at *; omega))) | ((with_reducible refine below_set ?_ ?_ _); · (first | exact Nat.le_refl _ | omega | (simp; done) | (simp; omega) | (simp at *; omega))) | ((with_reducible refine below_via (by with_reducible assumption) ?_ ?_); · (first | exact Nat.le_refl _ | omega | (simp; done) | (simp; omega) | (simp at *; omega)))))
      subst hBx
      refine at4' ?_ ?_ ?_ ?_ <;> (repeat (first | (with_reducible assumption) | (simp; done) | (with_reducible refine cell_drew_of ?_) | (with_reducible refine cell_drewN_of ?_) | (with_reducible refine cell_below_of (by with_reducible assumption) ?_) | ((with_reducible refine cell_new_of ?_ ?_) <;> (first | (with_reducible rfl) | (simp; done))) | ((with_reducible refine fro_new_of ?_) <;> (first | (with_reducible rfl) | (simp; done))) | (with_reducible refine cell_alloc_of _ ?_) | (with_reducible refine cell_set_of _ (by (first | exact Nat.le_refl _ | omega | (simp; done) | (simp; omega))) ?_) | (with_reducible refine fro_drew_of ?_) | (with_reducible refine fro_drewN_of ?_) | (with_reducible refine fro_below_of (by with_reducible assumption) (by (first | exact Nat.le_refl _ | omega | (simp; done) | (simp; omega))) ?_) | (with_reducible refine fro_alloc_of _ (by (first | exact Nat.le_refl _ | omega | (simp; done) | (simp; omega))) ?_) | (with_reducible refine fro_set_of _ ?_)))
    case body =>
      rintro l pre x Bx Wr ⟨h1, h2, h3, h4, h5, h6, h7, h8⟩ hBx hx hpre hlt
      have HXI := Lib.hid (mem_bagsOf.1 (hpre.subset (by simp : x ∈ pre ++ [x])))
      have hx6 : ∀ k, 0 ≤ x.at k ∧ x.at k ≤ 6 := fun k => by
        have h1 := Bag.in_at HXI.out k
        have h2 := St.all_bd HO.out k
        omega
      have HX6 := Lib.hid hx6
      have hstep := Lib.hid (st.fits_snoc X st.n pre x)
      have H := Lib.hid (And.intro h1 (And.intro h2 (And.intro h3 (And.intro h4 (And.intro h5 (And.intro h6 (And.intro h7 h8)))))))
      have HX := Lib.hid hx
      have HIR : Hid (IntRow Wr Wr.heap.size lA st.n X) := Lib.hid (HL.out.later h7)
      have x0 := cell_regrown (hx 0 (by omega))
      have x1 := cell_regrown (hx 1 (by omega))
      have x2 := cell_regrown (hx 2 (by omega))
      have x3 := cell_regrown (hx 3 (by omega))
      simp only [Bag.at] at x0 x1 x2 x3
      have v0 := cell_regrown h2.1
      have v1 := cell_regrown h3.1
      have HP := Lib.hid h4.1
      have HDD := Lib.hid h6
      have hbl : B ≤ Wr.heap.size := by omega
      clear h1 h2 h3 h4 h5 h6 h7 h8 hx hpre hx6
      gi_wp2
      refine region_qb_in (by kernel_rfl) (by kernel_rfl) (by kernel_rfl) ?_
      repeat (first | go_big_quiet_step ((first | (go_at_call 55; exact Calls.regrown_of (brings_any st HO.out x db _ ((HDD.out.at hbl).later (below_regrown _ _ _)) HXI.out)) | (go_at_call 74; exact Calls.regrown_of (cost_any x HX6.out lA st.n lc X HXX.out n4 (W.heap.size + 1) _ (HIR.out.later (below_regrown _ _ _)) (cell_regrown HP.out _ _))))) | quiet_step ((first | (go_at_call 55; exact Calls.regrown_of (brings_any st HO.out x db _ ((HDD.out.at hbl).later (below_regrown _ _ _)) HXI.out)) | (go_at_call 74; exact Calls.regrown_of (cost_any x HX6.out lA st.n lc X HXX.out n4 (W.heap.size + 1) _ (HIR.out.later (below_regrown _ _ _)) (cell_regrown HP.out _ _))))))
      refine wpQuiet_nil ?_; intro wq hbq
      clear x0 x1 x2 x3 v0 v1
      cases hcmp : decide (costN X x st.n < st.brings x) with
      | false =>
        gi_wp2
        have e1 : st.fits X st.n (pre ++ [x]) = true := by rw [hstep.out, H.out.1.2]; simp only [decide_eq_false_iff_not] at hcmp; simp; omega
        obtain ⟨h1, h2, h3, h4, h5, h6, h7, h8⟩ := H.out
        exact ⟨.below hbq, ⟨h1.1.later hbq, e1⟩, h2.later hbq, h3.later hbq, h4.later hbq, h5.same (hbq.block _ h5.lt), h6.later hbl hbq, h7.trans (hbq.mono (by omega)), Nat.le_trans h8 hbq.size⟩
      | true =>
        have ho := Lib.hid (H.out.1.1.later hbq)
        have ho1 := ho.out.1
        have ho2 := ho.out.2
        gi_wp2
        have e1 : st.fits X st.n (pre ++ [x]) = false := by rw [hstep.out]; simp only [decide_eq_true_eq] at hcmp; simp; intro _; omega
        obtain ⟨h1, h2, h3, h4, h5, h6, h7, h8⟩ := H.out
        have hsq := hbq.size
        refine (show _ ∧ _ from ⟨NewFrom.set _ (by dsimp only; omega) (.below hbq), ⟨rfl, e1, ?_⟩, ?_, ?_⟩)
        · exact ⟨World.cell?_setCell_same' _ _ _ (by rw [ho1]; rfl), fro_set_of _ ho2⟩
        · exact (h7.trans (hbq.mono (by omega))).setCell (p := ⟨w2.heap.size + 1, 0, none⟩) (by dsimp only; omega) _
        · simp [World.setCell]; omega
    case done =>
      rintro D Wd hD ⟨h1, h2, h3, h4, h5, h6, h7, h8⟩ hdef
      have HR : Hid (st.boundR st.n X = (costN X st.all st.n, 0)) := Lib.hid (by have e := HR0.out; rw [if_neg (by rw [h1.2]; decide)] at e; unfold St.boundR; rw [e]; rfl)
      have hdl2 := h6.lt
      have HDef := Lib.hid hdef
      have H7 := Lib.hid h7
      have HIR : Hid (IntRow Wd Wd.heap.size lA st.n X) := Lib.hid (HL.out.later h7)
      have HP := Lib.hid h4.1
      have o0 := h1.1.1
      have v0 := cell_regrown h2.1
      have v1 := cell_regrown h3.1
      have c0 := cell_regrown h6.c0
      have c1 := cell_regrown h6.c1
      have c2 := cell_regrown h6.c2
      have c3 := cell_regrown h6.c3
      clear h1 h2 h3 h4 h5 h6 h7 h8 hdef
      go_wp2_with fail
      refine region_qbw (by kernel_rfl) (by kernel_rfl) ?_
      repeat (first | go_big_quiet_step ((go_at_call 74; exact Calls.regrown_of (cost_any st.all (fun k => St.all_bd HO.out k) lA st.n lc X HXX.out n4 (W.heap.size + 1) _ (HIR.out.later (below_regrown _ _ _)) (cell_regrown HP.out _ _)))) | quiet_step ((go_at_call 74; exact Calls.regrown_of (cost_any st.all (fun k => St.all_bd HO.out k) lA st.n lc X HXX.out n4 (W.heap.size + 1) _ (HIR.out.later (below_regrown _ _ _)) (cell_regrown HP.out _ _)))))
      refine wpQuiet_nil ?_; intro wq hbq
      clear v0 v1 c0 c1 c2 c3
      go_wp2_with fail
      rw [Exit.noGoto_ret]
      have HDef5 := Lib.hid ((hbq.block D (Array.getElem?_eq_some_iff.1 HDef.out).1).trans HDef.out)
      have hs5 := hbq.size
      refine ⟨by simp, .inl ⟨_, _, rfl, run_takeDeferred HDef5.out, ?_⟩⟩
      refine ⟨nuV (costN X st.all st.n, 0), ?_, by rw [HR.out], (H7.out.trans (hbq.mono (by omega))).trans (below_put _ _ _ _ (by omega) (by omega))⟩
      simp [results, Tryz.results45, go_sem]
    case stop =>
      rintro D c pre Wd hD hpre ⟨⟨rfl, hfit, ho⟩, h7, h8⟩ hdef
      have HR : Hid (st.boundR st.n X = (0, 8)) := Lib.hid (by unfold St.boundR; rw [HR0.out, if_pos (St.fits_prefix hpre hfit)]; rfl)
      have HDef := Lib.hid hdef
      have H7 := Lib.hid h7
      have o0 := ho.1
      clear hdef hfit ho h7 hpre
      go_wp2_with fail
      rw [Exit.noGoto_ret]
      refine ⟨by simp, .inl ⟨_, _, rfl, run_takeDeferred HDef.out, ?_⟩⟩
      refine ⟨nuV (0, 8), ?_, by rw [HR.out], H7.out.trans (below_put _ _ _ _ (by omega) (by omega))⟩
      simp [results, Tryz.results45, go_sem]
  · exact absurd (St.check_ok.2 HO.out) hne

/-- lot.Bound -/
theorem Bound_any (st : St) (B : Nat) (pA gA : Option Addr) (pc gc : Nat) (lA : Option Addr) (ln lc : Nat) (X : Nat → Int) (W : World) (hs : StRow W B st pA pc gA gc) (hl : IntRow W W.heap.size lA ln X) (hn : ln ≤ 1000) (hlc : ln ≤ lc) :
    Calls Tryz.prog 45 #[stV pA st.n pc gA st.m gc st.lots, .slice lA ln lc] W fun e W' => e = .returned (nuV (st.boundR ln X)) ∧ Below W.heap.size W W' := by
  by_cases h0 : st.check ≠ 0 ∨ ln ≠ st.n ∨ allN (fun k => inB (X k) 0 100) ln = false
  · exact Bound_no st B pA gA pc gc lA ln lc X W hs hl hn hlc h0
  · simp only [not_or, Bool.not_eq_false, Decidable.not_not] at h0
    obtain ⟨h1, rfl, h3⟩ := h0
    exact Bound_yes st B pA gA pc gc lA lc X W hs hl hlc (St.check_ok.1 h1) (fun k hk => by have := allN_iff.1 h3 k hk; simpa [inB] using this)
end Go.Proofs.YtmbkngfcbgbeiaaGreat
