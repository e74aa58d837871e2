/- The reference: fouls, Check. -/
import Derived.Test.YtegmomappbehcaaT
import Derived.Test.YtegmomappbehcaaWy
import Derived.Test.YtegmomappbehcaaWt
import Derived.Test.YtegmomappbehcaaWv
set_option linter.unusedSimpArgs false
set_option linter.unusedVariables false
namespace Go.Proofs.Ytegmomappbehcaa
open Go.RowKit Go.Shelf

/-- a row of numbers of a call's own -/
theorem intOwn_of {w : World} {base n : Nat} {v : Value} {X : Nat → Int} (h : w.ownsRow base 3 1 v n (numCells X n)) : ∃ A c, v = .slice A n c ∧ IntRow w w.heap.size A n X ∧ n ≤ c ∧ (∀ a, A = some a → base ≤ a.block ∧ a.off = 0) := by
  rcases h.2 with ⟨rfl, h0⟩ | ⟨g, cap, cur, rfl, hb, hg, hc, _⟩
  · exact ⟨none, 0, by rw [h0], fun k hk => by omega, by omega, fun a ha => by cases ha⟩
  · refine ⟨some ⟨g, 0, none⟩, cap, rfl, fun k hk => ⟨g, 0, rfl, (Array.getElem?_eq_some_iff.1 hg).1, ?_⟩, hc, fun a ha => by injection ha with ha; subst ha; exact ⟨hb, rfl⟩⟩
    have h1 := h.cells (g := g) rfl k (.int .i64 (X k)) (numCells_get _ hk)
    rwa [show ((⟨g, 0, none⟩ : Addr).add k) = ⟨g, 0 + k, none⟩ by by_cases hj : k = 0 <;> simp [Addr.add, hj]] at h1
theorem numCells_succ (X : Nat → Int) (n : Nat) : numCells X (n + 1) = numCells X n ++ [.int .i64 (X n)] := by simp [numCells, List.range_succ]

set_option maxRecDepth 100000 in
set_option maxHeartbeats 1000000 in
theorem fouls_any (p : Pk) (hp : p.rng) (W : World) :
    Calls Try.prog 100 #[pkV p.s p.w p.o p.f] W fun e W' => (∃ A c, e = .returned (.slice A p.cnt c) ∧ IntRow W' W'.heap.size A p.cnt (fun k => p.f + k) ∧ p.cnt ≤ c ∧ ∀ a, A = some a → W.heap.size ≤ a.block) ∧ Below W.heap.size W W' := by
  have HP := Lib.hid hp
  unfold Pk.rng at hp
  have hcw : p.f + (p.cnt : Int) ≤ p.w + 1 ∨ p.cnt = 0 := by unfold Pk.cnt Pk.hi; omega
  have e1 : IntKind.i64.wrap (p.o - p.f) = p.o - p.f := IntWalk.i64_in _ (by omega)
  have e2 : IntKind.i64.wrap (p.s - (p.o - p.f)) = p.s - (p.o - p.f) := IntWalk.i64_in _ (by omega)
  obtain ⟨i0, hi, hz0, hz1, hz2⟩ := info_parts infoInt
  go_enter Try.func100, Try.ntmps100
  go_wp2_with fail
  refine wp_world (fun W1 => (W1.cell? ⟨W.heap.size, 0, none⟩ = some (.int .i64 p.s) ∧ W1.cell? ⟨W.heap.size, 1, none⟩ = some (.int .i64 p.w) ∧ W1.cell? ⟨W.heap.size, 2, none⟩ = some (.int .i64 p.o) ∧ W1.cell? ⟨W.heap.size, 3, none⟩ = some (.int .i64 p.f)) ∧ Below W.heap.size W W1 ∧ W.heap.size + 1 ≤ W1.heap.size) ⟨(by (repeat' refine And.intro ?_ ?_) <;> (repeat (first | (with_reducible assumption) | (simp; done) | (with_reducible refine cell_drew_of ?_) | (with_reducible refine cell_drewN_of ?_) | (with_reducible refine cell_below_of (by with_reducible assumption) ?_) | ((with_reducible refine cell_new_of ?_ ?_) <;> (first | (with_reducible rfl) | (simp; done))) | ((with_reducible refine fro_new_of ?_) <;> (first | (with_reducible rfl) | (simp; done))) | (with_reducible refine cell_alloc_of _ ?_) | (with_reducible refine cell_set_of _ (by (first | exact Nat.le_refl _ | omega | (simp; done) | (simp; omega))) ?_) | (with_reducible refine fro_drew_of ?_) | (with_reducible refine fro_drewN_of ?_) | (with_reducible refine fro_below_of (by with_reducible assumption) (by (first | exact Nat.le_refl _ | omega | (simp; done) | (simp; omega))) ?_) | (with_reducible refine fro_alloc_of _ (by (first | exact Nat.le_refl _ | omega | (simp; done) | (simp; omega))) ?_) | (with_reducible refine fro_set_of _ ?_)))), (by repeat (first | (with_reducible exact Below.refl _ _) | (with_reducible refine Below.drew ?_) | (with_reducible refine below_drewN ?_ _) | ((with_reducible refine below_alloc ?_ ?_ _); · (first | exact Nat.le_refl _ | omega | (simp; done) | (simp; omega) | (simp at *; omega))) | ((with_reducible refine below_set ?_ ?_ _); · (first | exact Nat.le_refl _ | omega | (simp; done) | (simp; omega) | (simp at *; omega))) | ((with_reducible refine below_via (by with_reducible assumption) ?_ ?_); · (first | exact Nat.le_refl _ | omega | (simp; done) | (simp; omega) | (simp at *; omega))))), by simp⟩ ?_
  rintro W1 ⟨⟨c0, c1, c2, c3⟩, hb1, hs1⟩
  have HB1 := Lib.hid hb1
  clear hb1
  go_loopw [3, 4] (fun v i wr => ∃ k : Nat, (p.f + k ≤ p.w + 1 ∨ k = 0) ∧ i = .int .i64 (p.f + k) ∧ Hid (wr.ownsRow W1.heap.size 3 1 v (min k p.cnt) (numCells (fun j => p.f + j) (min k p.cnt))) ∧ Hid (Below W1.heap.size W1 wr)) (fun _ i _ => (p.w + 1 - intOf i).toNat)
  case atStart => exact ⟨0, by omega, by simp, Lib.hid (by rw [Nat.zero_min]; exact World.ownsRow_nil _ _ _ _), Lib.hid (Below.refl _ _)⟩
  case round =>
    obtain ⟨k, hk, rfl, hown, hbw⟩ := hrel
    have c0 := hbw.out.cell (p := ⟨W.heap.size, 0, none⟩) (by simp; omega) |>.trans c0
    have c1 := hbw.out.cell (p := ⟨W.heap.size, 1, none⟩) (by simp; omega) |>.trans c1
    have c2 := hbw.out.cell (p := ⟨W.heap.size, 2, none⟩) (by simp; omega) |>.trans c2
    have c3 := hbw.out.cell (p := ⟨W.heap.size, 3, none⟩) (by simp; omega) |>.trans c3
    by_cases hlt : p.f + k ≤ p.w
    · by_cases hin : p.f + (k : Int) ≤ p.s - (p.o - p.f)
      · have hkc : k < p.cnt := by unfold Pk.cnt Pk.hi; omega
        rw [Nat.min_eq_left (Nat.le_of_lt hkc)] at hown
        have hv1 := hown.out.lt
        have hsb := hbw.out.size
        go_wp2_with (at_builtin; refine wpList_append_own _ rfl (.tmp 23) (.tmp 25) 26 rfl W1.heap.size 3 i0 (.int .i64 0) 1 8 ints_under hi hz0 hz1 hz2 rfl (by decide) u3 k (numCells (fun j => p.f + j) k) rfl (hown.out.alloc _) ⟨wr.heap.size, 0, none⟩ 1 1 [.int .i64 (p.f + k)] rfl rfl ?c1 ?c2 ?c3 ?c4 ?c5 ?_)
        case c1 => exact new_cells (cs := [.int .i64 (p.f + k)])
        case c2 => intro u hu; simp only [List.mem_cons, List.not_mem_nil, or_false] at hu; subst hu; rfl
        case c3 => unfold maxLen; omega
        case c4 => omega
        case c5 => simp; omega
        intro v' w6 hown' hgr _
        have hs6 := hgr.size
        simp only [World.size_alloc] at hs6
        have HB6 : Hid (Below W1.heap.size W1 w6) := Lib.hid ⟨hgr.os.trans hbw.out.os, hgr.tape.trans hbw.out.tape, hgr.output.trans hbw.out.output, by omega, fun i hi => (hgr.block i (by simp; omega) (fun e => by have := (hv1 i e.symm).1; omega)).trans ((Below.heap_alloc _ _ _ (by omega)).trans (hbw.out.block i hi))⟩
        have HOWN6 : Hid (w6.ownsRow W1.heap.size 3 1 v' (min (k + 1) p.cnt) (numCells (fun j => p.f + j) (min (k + 1) p.cnt))) := Lib.hid (by rw [Nat.min_eq_left (by omega : k + 1 ≤ p.cnt), numCells_succ]; exact hown')
        have ew : IntKind.i64.wrap (p.f + (k : Int) + 1) = p.f + (k : Int) + 1 := IntWalk.i64_in _ (by omega)
        clear hown' hgr
        go_wp2_with fail
        go_roundw
        case rel => exact ⟨k + 1, by omega, by go_num, HOWN6, HB6⟩
        case measure => simp [intOf]; omega
      · have hkc : p.cnt ≤ k := by unfold Pk.cnt Pk.hi; omega
        have ew : IntKind.i64.wrap (p.f + (k : Int) + 1) = p.f + (k : Int) + 1 := IntWalk.i64_in _ (by omega)
        rw [Nat.min_eq_right hkc] at hown
        go_wp2_with fail
        go_roundw
        case rel => exact ⟨k + 1, by omega, by go_num, by rw [Nat.min_eq_right (by omega : p.cnt ≤ k + 1)]; exact hown, hbw⟩
        case measure => simp [intOf]; omega
    · have hkc : min k p.cnt = p.cnt := by unfold Pk.cnt Pk.hi; omega
      rw [hkc] at hown
      obtain ⟨A, c, rfl, hr, hcl, hbs⟩ := intOwn_of hown.out
      have HBS := Lib.hid hbs
      clear hbs
      have HR := Lib.hid hr
      have HB := Lib.hid (HB1.out.trans (hbw.out.mono (by omega)))
      clear hr
      go_wp2_with fail
      go_ret
      exact ⟨⟨A, c, rfl, HR.out, hcl, fun a ha => by have := (HBS.out a ha).1; omega⟩, HB.out⟩

set_option maxRecDepth 100000 in
set_option maxHeartbeats 1000000 in
/-- the reference's Check: too few or too many -/
theorem rcheck_count (st : St) (pA gA : Option Addr) (pc gc : Nat) (W : World) (hn : st.n ≤ 1000) (hm : st.m ≤ 1000) (hc : ¬ (1 ≤ st.n ∧ st.n ≤ 4) ∨ 4 < st.m) :
    Calls Try.prog 54 #[stV pA st.n pc gA st.m gc st.lots] W fun e W' => e = .returned (.int .i64 3) ∧ Below W.heap.size W W' := by
  cases h1 : inB st.n 1 4 with
  | false =>
    go_enter Try.func54, Try.ntmps54
    go_wp2_with (go_at_call 82; refine (off_any _ _ _ _).mono ?_; rintro e w' ⟨rfl, rfl⟩)
    go_ret
    exact ⟨rfl, (by repeat (first | (with_reducible exact Below.refl _ _) | (with_reducible refine Below.drew ?_) | (with_reducible refine below_drewN ?_ _) | ((with_reducible refine below_alloc ?_ ?_ _); · (first | exact Nat.le_refl _ | omega | (simp; done) | (simp; omega) | (simp at *; omega))) | ((with_reducible refine below_set ?_ ?_ _); · (first | exact Nat.le_refl _ | omega | (simp; done) | (simp; omega) | (simp at *; omega))) | ((with_reducible refine below_via (by with_reducible assumption) ?_ ?_); · (first | exact Nat.le_refl _ | omega | (simp; done) | (simp; omega) | (simp at *; omega)))))⟩
  | true =>
    have h2 : (4 : Int) < st.m := by simp [inB] at h1; omega
    go_enter Try.func54, Try.ntmps54
    go_wp2_with (go_at_call 82; refine (off_any _ _ _ _).mono ?_; rintro e w' ⟨rfl, rfl⟩)
    go_ret
    exact ⟨rfl, (by repeat (first | (with_reducible exact Below.refl _ _) | (with_reducible refine Below.drew ?_) | (with_reducible refine below_drewN ?_ _) | ((with_reducible refine below_alloc ?_ ?_ _); · (first | exact Nat.le_refl _ | omega | (simp; done) | (simp; omega) | (simp at *; omega))) | ((with_reducible refine below_set ?_ ?_ _); · (first | exact Nat.le_refl _ | omega | (simp; done) | (simp; omega) | (simp at *; omega))) | ((with_reducible refine below_via (by with_reducible assumption) ?_ ?_); · (first | exact Nat.le_refl _ | omega | (simp; done) | (simp; omega) | (simp at *; omega)))))⟩

set_option maxRecDepth 100000 in
set_option maxHeartbeats 2000000 in
/-- the reference's Check where there are not too many -/
theorem rcheck_in (st : St) (pA gA : Option Addr) (pc gc : Nat) (W : World) (hp : PkRow W W.heap.size pA st.n st.P) (hg : GdRow W W.heap.size gA st.m st.G) (h1 : 1 ≤ st.n) (h4 : st.n ≤ 4) (hm : st.m ≤ 4) (hpc : st.n ≤ pc) (hgc : st.m ≤ gc) :
    Calls Try.prog 54 #[stV pA st.n pc gA st.m gc st.lots] W fun e W' => e = .returned (.int .i64 st.check) ∧ Below W.heap.size W W' := by
  have HP := Lib.hid hp
  have HG := Lib.hid hg
  have i1 : inB st.n 1 4 = true := by simp [inB]; omega
  have i2 : decide ((4 : Int) < st.m) = false := by simp; omega
  have hc0 : ¬ (¬ (1 ≤ st.n ∧ st.n ≤ 4) ∨ 4 < st.m) := by omega
  have HC := Lib.hid hc0
  clear hp hg hc0
  go_enter Try.func54, Try.ntmps54
  go_wp2_with (go_at_call 82; refine (off_any _ _ _ _).mono ?_; rintro e w' ⟨rfl, rfl⟩)
  refine wp_world (fun W1 => (W1.cell? ⟨W.heap.size, 0, none⟩ = some (.slice pA st.n pc) ∧ W1.cell? ⟨W.heap.size, 1, none⟩ = some (.slice gA st.m gc) ∧ W1.cell? ⟨W.heap.size, 2, none⟩ = some (.int .i64 st.lots)) ∧ Below W.heap.size W W1 ∧ W.heap.size + 1 ≤ W1.heap.size) ⟨(by (repeat' refine And.intro ?_ ?_) <;> (repeat (first | (with_reducible assumption) | (simp; done) | (with_reducible refine cell_drew_of ?_) | (with_reducible refine cell_drewN_of ?_) | (with_reducible refine cell_below_of (by with_reducible assumption) ?_) | ((with_reducible refine cell_new_of ?_ ?_) <;> (first | (with_reducible rfl) | (simp; done))) | ((with_reducible refine fro_new_of ?_) <;> (first | (with_reducible rfl) | (simp; done))) | (with_reducible refine cell_alloc_of _ ?_) | (with_reducible refine cell_set_of _ (by (first | exact Nat.le_refl _ | omega | (simp; done) | (simp; omega))) ?_) | (with_reducible refine fro_drew_of ?_) | (with_reducible refine fro_drewN_of ?_) | (with_reducible refine fro_below_of (by with_reducible assumption) (by (first | exact Nat.le_refl _ | omega | (simp; done) | (simp; omega))) ?_) | (with_reducible refine fro_alloc_of _ (by (first | exact Nat.le_refl _ | omega | (simp; done) | (simp; omega))) ?_) | (with_reducible refine fro_set_of _ ?_)))), (by repeat (first | (with_reducible exact Below.refl _ _) | (with_reducible refine Below.drew ?_) | (with_reducible refine below_drewN ?_ _) | ((with_reducible refine below_alloc ?_ ?_ _); · (first | exact Nat.le_refl _ | omega | (simp; done) | (simp; omega) | (simp at *; omega))) | ((with_reducible refine below_set ?_ ?_ _); · (first | exact Nat.le_refl _ | omega | (simp; done) | (simp; omega) | (simp at *; omega))) | ((with_reducible refine below_via (by with_reducible assumption) ?_ ?_); · (first | exact Nat.le_refl _ | omega | (simp; done) | (simp; omega) | (simp at *; omega))))), by simp⟩ ?_
  rintro W1 ⟨⟨a0, a1, a2⟩, hb1, hs1⟩
  have HB1 := Lib.hid hb1
  have HA := Lib.hid (show _ ∧ _ ∧ _ from ⟨a0, a1, a2⟩)
  clear hb1 a0 a1 a2
  go_loopw [3] (fun i wr => ∃ k : Nat, k ≤ st.n ∧ i = .int .i64 k ∧ Hid (∀ j, j < k → pkRngB (st.P j) = true) ∧ Hid (Below W1.heap.size W1 wr)) (fun i _ => st.n - (intOf i).toNat)
  case atStart => exact ⟨0, Nat.zero_le _, rfl, Lib.hid (fun j hj => absurd hj (by omega)), Lib.hid (Below.refl _ _)⟩
  case round =>
    obtain ⟨k, hk, rfl, hall, hbw⟩ := hrel
    have a0 := cell_same (hbw.out.block W.heap.size (by omega)) HA.out.1
    have hyw : Hid (Below W.heap.size W wr) := Lib.hid (HB1.out.trans (hbw.out.mono (by omega)))
    have hsw := hyw.out.size
    by_cases hlt : k < st.n
    · obtain ⟨b, o, rfl, hbl, c0, c1, c2, c3⟩ := (HP.out.below hyw.out) k hlt
      have hk0 : (0 : Int) ≤ (k : Int) := by omega
      have hkn : (k : Int) < (st.n : Int) := by omega
      have hyo := hyw.out
      cases j1 : inB (st.P k).s 0 6 with
      | false =>
        have HR : Hid (st.check = 4) := Lib.hid (by unfold St.check; rw [if_neg HC.out, if_pos (allN_false (k := k) hlt (by simp [pkRngB, j1]))])
        go_wp2_with (go_at_call 82; refine (off_any _ _ _ _).mono ?_; rintro e w' ⟨rfl, rfl⟩)
        go_ret
        exact ⟨by rw [HR.out]; rfl, (by repeat (first | (with_reducible exact Below.refl _ _) | (with_reducible refine Below.drew ?_) | (with_reducible refine below_drewN ?_ _) | ((with_reducible refine below_alloc ?_ ?_ _); · (first | exact Nat.le_refl _ | omega | (simp; done) | (simp; omega) | (simp at *; omega))) | ((with_reducible refine below_set ?_ ?_ _); · (first | exact Nat.le_refl _ | omega | (simp; done) | (simp; omega) | (simp at *; omega))) | ((with_reducible refine below_via (by with_reducible assumption) ?_ ?_); · (first | exact Nat.le_refl _ | omega | (simp; done) | (simp; omega) | (simp at *; omega)))))⟩
      | true =>
        cases j2 : inB (st.P k).w 0 (st.P k).s with
        | false =>
          have HR : Hid (st.check = 4) := Lib.hid (by unfold St.check; rw [if_neg HC.out, if_pos (allN_false (k := k) hlt (by simp [pkRngB, j2]))])
          go_wp2_with (go_at_call 82; refine (off_any _ _ _ _).mono ?_; rintro e w' ⟨rfl, rfl⟩)
          go_ret
          exact ⟨by rw [HR.out]; rfl, (by repeat (first | (with_reducible exact Below.refl _ _) | (with_reducible refine Below.drew ?_) | (with_reducible refine below_drewN ?_ _) | ((with_reducible refine below_alloc ?_ ?_ _); · (first | exact Nat.le_refl _ | omega | (simp; done) | (simp; omega) | (simp at *; omega))) | ((with_reducible refine below_set ?_ ?_ _); · (first | exact Nat.le_refl _ | omega | (simp; done) | (simp; omega) | (simp at *; omega))) | ((with_reducible refine below_via (by with_reducible assumption) ?_ ?_); · (first | exact Nat.le_refl _ | omega | (simp; done) | (simp; omega) | (simp at *; omega)))))⟩
        | true =>
          cases j3 : inB (st.P k).o 0 (st.P k).s with
          | false =>
            have HR : Hid (st.check = 4) := Lib.hid (by unfold St.check; rw [if_neg HC.out, if_pos (allN_false (k := k) hlt (by simp [pkRngB, j3]))])
            go_wp2_with (go_at_call 82; refine (off_any _ _ _ _).mono ?_; rintro e w' ⟨rfl, rfl⟩)
            go_ret
            exact ⟨by rw [HR.out]; rfl, (by repeat (first | (with_reducible exact Below.refl _ _) | (with_reducible refine Below.drew ?_) | (with_reducible refine below_drewN ?_ _) | ((with_reducible refine below_alloc ?_ ?_ _); · (first | exact Nat.le_refl _ | omega | (simp; done) | (simp; omega) | (simp at *; omega))) | ((with_reducible refine below_set ?_ ?_ _); · (first | exact Nat.le_refl _ | omega | (simp; done) | (simp; omega) | (simp at *; omega))) | ((with_reducible refine below_via (by with_reducible assumption) ?_ ?_); · (first | exact Nat.le_refl _ | omega | (simp; done) | (simp; omega) | (simp at *; omega)))))⟩
          | true =>
            cases j4 : inB (st.P k).f 0 (st.P k).o with
            | false =>
              have HR : Hid (st.check = 4) := Lib.hid (by unfold St.check; rw [if_neg HC.out, if_pos (allN_false (k := k) hlt (by simp [pkRngB, j4]))])
              go_wp2_with (go_at_call 82; refine (off_any _ _ _ _).mono ?_; rintro e w' ⟨rfl, rfl⟩)
              go_ret
              exact ⟨by rw [HR.out]; rfl, (by repeat (first | (with_reducible exact Below.refl _ _) | (with_reducible refine Below.drew ?_) | (with_reducible refine below_drewN ?_ _) | ((with_reducible refine below_alloc ?_ ?_ _); · (first | exact Nat.le_refl _ | omega | (simp; done) | (simp; omega) | (simp at *; omega))) | ((with_reducible refine below_set ?_ ?_ _); · (first | exact Nat.le_refl _ | omega | (simp; done) | (simp; omega) | (simp at *; omega))) | ((with_reducible refine below_via (by with_reducible assumption) ?_ ?_); · (first | exact Nat.le_refl _ | omega | (simp; done) | (simp; omega) | (simp at *; omega)))))⟩
            | true =>
              have HU : Hid (pkRngB (st.P k) = true) := Lib.hid (by simp [pkRngB, j1, j2, j3, j4])
              go_wp2_with (go_at_call 82; refine (off_any _ _ _ _).mono ?_; rintro e w' ⟨rfl, rfl⟩)
              go_roundw
              case rel => exact ⟨k + 1, by omega, by go_num, Lib.hid (fun j hj => by rcases Nat.lt_or_ge j k with h | h; exact hall.out j h; rw [show j = k from by omega]; exact HU.out), Lib.hid (hbw.out.alloc hbw.out.size _)⟩
              case measure => simp [intOf]; omega
    · have hk' : k = st.n := by omega
      have HALL : Hid (allN (fun k => pkRngB (st.P k)) st.n = true) := Lib.hid (allN_iff.2 (by rw [← hk']; exact hall.out))
      have hge : ¬ (k : Int) < (st.n : Int) := by omega
      clear hall
      go_wp2_with fail
      have hsz := hbw.out.size
      go_loopw [5] (fun i wr => ∃ k : Nat, k ≤ st.m ∧ i = .int .i64 k ∧ Hid (∀ j, j < k → gdRngB (st.G j) = true) ∧ Hid (Below W1.heap.size W1 wr)) (fun i _ => st.m - (intOf i).toNat)
      case atStart => exact ⟨0, Nat.zero_le _, rfl, Lib.hid (fun j hj => absurd hj (by omega)), hbw⟩
      case round =>
        rename_i wr1
        clear a0 hsw hyw hbw hsz
        obtain ⟨k2, hk2, rfl, hall, hbw⟩ := hrel
        have a1 := cell_same (hbw.out.block W.heap.size (by omega)) HA.out.2.1
        have hyw : Hid (Below W.heap.size W wr) := Lib.hid (HB1.out.trans (hbw.out.mono (by omega)))
        have hsw := hyw.out.size
        by_cases hlt : k2 < st.m
        · obtain ⟨b, o, rfl, hbl, c0, c1⟩ := (HG.out.below hyw.out) k2 hlt
          have hk0 : (0 : Int) ≤ (k2 : Int) := by omega
          have hkn : (k2 : Int) < (st.m : Int) := by omega
          have hyo := hyw.out
          cases j1 : inB (st.G k2).foul 0 100 with
          | false =>
            have HR : Hid (st.check = 4) := Lib.hid (by unfold St.check; rw [if_neg HC.out, if_neg (by rw [HALL.out]; decide), if_pos (.inl (allN_false (k := k2) hlt (by simp [gdRngB, j1])))])
            go_wp2_with (go_at_call 82; refine (off_any _ _ _ _).mono ?_; rintro e w' ⟨rfl, rfl⟩)
            go_ret
            exact ⟨by rw [HR.out]; rfl, (by repeat (first | (with_reducible exact Below.refl _ _) | (with_reducible refine Below.drew ?_) | (with_reducible refine below_drewN ?_ _) | ((with_reducible refine below_alloc ?_ ?_ _); · (first | exact Nat.le_refl _ | omega | (simp; done) | (simp; omega) | (simp at *; omega))) | ((with_reducible refine below_set ?_ ?_ _); · (first | exact Nat.le_refl _ | omega | (simp; done) | (simp; omega) | (simp at *; omega))) | ((with_reducible refine below_via (by with_reducible assumption) ?_ ?_); · (first | exact Nat.le_refl _ | omega | (simp; done) | (simp; omega) | (simp at *; omega)))))⟩
          | true =>
            cases j2 : inB (st.G k2).price 1 100 with
            | false =>
              have HR : Hid (st.check = 4) := Lib.hid (by unfold St.check; rw [if_neg HC.out, if_neg (by rw [HALL.out]; decide), if_pos (.inl (allN_false (k := k2) hlt (by simp [gdRngB, j2])))])
              go_wp2_with (go_at_call 82; refine (off_any _ _ _ _).mono ?_; rintro e w' ⟨rfl, rfl⟩)
              go_ret
              exact ⟨by rw [HR.out]; rfl, (by repeat (first | (with_reducible exact Below.refl _ _) | (with_reducible refine Below.drew ?_) | (with_reducible refine below_drewN ?_ _) | ((with_reducible refine below_alloc ?_ ?_ _); · (first | exact Nat.le_refl _ | omega | (simp; done) | (simp; omega) | (simp at *; omega))) | ((with_reducible refine below_set ?_ ?_ _); · (first | exact Nat.le_refl _ | omega | (simp; done) | (simp; omega) | (simp at *; omega))) | ((with_reducible refine below_via (by with_reducible assumption) ?_ ?_); · (first | exact Nat.le_refl _ | omega | (simp; done) | (simp; omega) | (simp at *; omega)))))⟩
            | true =>
              have HU : Hid (gdRngB (st.G k2) = true) := Lib.hid (by simp [gdRngB, j1, j2])
              go_wp2_with (go_at_call 82; refine (off_any _ _ _ _).mono ?_; rintro e w' ⟨rfl, rfl⟩)
              go_roundw
              case rel => exact ⟨k2 + 1, by omega, by go_num, Lib.hid (fun j hj => by rcases Nat.lt_or_ge j k2 with h | h; exact hall.out j h; rw [show j = k2 from by omega]; exact HU.out), hbw⟩
              case measure => simp [intOf]; omega
        · have hk2' : k2 = st.m := by omega
          have HALG : Hid (allN (fun k => gdRngB (st.G k)) st.m = true) := Lib.hid (allN_iff.2 (by rw [← hk2']; exact hall.out))
          have hge2 : ¬ (k2 : Int) < (st.m : Int) := by omega
          have a2 := cell_same (hbw.out.block W.heap.size (by omega)) HA.out.2.2
          clear hall
          cases jl : inB st.lots 0 3 with
          | false =>
            have HR : Hid (st.check = 4) := Lib.hid (by unfold St.check; rw [if_neg HC.out, if_neg (by rw [HALL.out]; decide), if_pos (.inr jl)])
            have hyo := hyw.out
            go_wp2_with (go_at_call 82; refine (off_any _ _ _ _).mono ?_; rintro e w' ⟨rfl, rfl⟩)
            go_ret
            exact ⟨by rw [HR.out]; rfl, (by repeat (first | (with_reducible exact Below.refl _ _) | (with_reducible refine Below.drew ?_) | (with_reducible refine below_drewN ?_ _) | ((with_reducible refine below_alloc ?_ ?_ _); · (first | exact Nat.le_refl _ | omega | (simp; done) | (simp; omega) | (simp at *; omega))) | ((with_reducible refine below_set ?_ ?_ _); · (first | exact Nat.le_refl _ | omega | (simp; done) | (simp; omega) | (simp at *; omega))) | ((with_reducible refine below_via (by with_reducible assumption) ?_ ?_); · (first | exact Nat.le_refl _ | omega | (simp; done) | (simp; omega) | (simp at *; omega)))))⟩
          | true =>
            have HN : Hid (¬ (allN (fun k => gdRngB (st.G k)) st.m = false ∨ inB st.lots 0 3 = false)) := Lib.hid (by rw [HALG.out, jl]; simp)
            go_wp2_with (go_at_call 82; refine (off_any _ _ _ _).mono ?_; rintro e w' ⟨rfl, rfl⟩)
            have hsz := hbw.out.size
            go_loopw [6] (fun i wr => ∃ k : Nat, (k + 1 ≤ st.m ∨ k = 0) ∧ i = .int .i64 ((k : Int) + 1) ∧ Hid (∀ j, j < k → upB st j = true) ∧ Hid (Below W1.heap.size W1 wr)) (fun i _ => (st.m + 1 - intOf i).toNat)
            case atStart => exact ⟨0, .inr rfl, rfl, Lib.hid (fun j hj => absurd hj (by omega)), hbw⟩
            case round =>
              rename_i wr2
              clear a1 a2 hsw hyw hbw hsz
              obtain ⟨k3, hk3, rfl, hall, hbw⟩ := hrel
              have a1 := cell_same (hbw.out.block W.heap.size (by omega)) HA.out.2.1
              have hyw : Hid (Below W.heap.size W wr) := Lib.hid (HB1.out.trans (hbw.out.mono (by omega)))
              have hsw := hyw.out.size
              by_cases hlt : k3 + 1 < st.m
              · obtain ⟨b, o, hA, hb', c0, c1⟩ := (HG.out.below hyw.out) k3 (by omega)
                obtain ⟨b2, o2, hA2, hb2', c2, c3⟩ := (HG.out.below hyw.out) (k3 + 1) hlt
                subst hA
                obtain ⟨rfl, rfl⟩ : b = b2 ∧ o = o2 := by injection hA2 with h; injection h with h1 h2; exact ⟨h1, h2⟩
                clear hA2 hb2'
                have hlt1 : (k3 : Int) < (st.m : Int) := by omega
                have hlt2 : (k3 : Int) + 1 < (st.m : Int) := by omega
                have hk0 : (0 : Int) ≤ (k3 : Int) := by omega
                have hk1 : (0 : Int) ≤ (k3 : Int) + 1 := by omega
                have ew : IntKind.i64.wrap ((k3 : Int) + 1 - 1) = (k3 : Int) := by rw [IntWalk.i64_in _ (by omega)]; omega
                have ew2 : IntKind.i64.wrap ((k3 : Int) + 1 + 1) = ((k3 + 1 : Nat) : Int) + 1 := by rw [IntWalk.i64_in _ (by omega)]; omega
                have et : ((k3 : Int) + 1).toNat = k3 + 1 := by omega
                have ew3 : IntKind.i64.wrap (k3 : Int) = (k3 : Int) := IntWalk.i64_in _ (by omega)
                have hyo := hyw.out
                by_cases z1 : (st.G (k3 + 1)).foul ≤ (st.G k3).foul
                · have HR : Hid (st.check = 6) := Lib.hid (by unfold St.check; rw [if_neg HC.out, if_neg (by rw [HALL.out]; decide), if_neg HN.out, if_pos (allN_false (k := k3) (by omega) (by simp [upB]; omega))])
                  go_wp2_with fail
                  have x0 := cell_regrown a1
                  have x1 := cell_regrown c0
                  have x2 := cell_regrown c1
                  have x3 := cell_regrown c2
                  have x4 := cell_regrown c3
                  clear c0 c1 c2 c3
                  refine region_qbw (by kernel_rfl) (by kernel_rfl) ?_
                  repeat (first | go_big_quiet_step (fail) | quiet_step (fail))
                  refine wpQuiet_nil ?_; intro wq hbq
                  have hyq := Lib.hid (hyw.out.trans (hbq.mono hsw))
                  clear x0 x1 x2 x3 x4 hbq
                  go_wp2_with fail
                  go_ret
                  exact ⟨by rw [HR.out]; rfl, hyq.out⟩
                · by_cases z2 : (st.G k3).price ≤ (st.G (k3 + 1)).price
                  · have HR : Hid (st.check = 6) := Lib.hid (by unfold St.check; rw [if_neg HC.out, if_neg (by rw [HALL.out]; decide), if_neg HN.out, if_pos (allN_false (k := k3) (by omega) (by simp [upB]; omega))])
                    go_wp2_with fail
                    have x0 := cell_regrown a1
                    have x1 := cell_regrown c0
                    have x2 := cell_regrown c1
                    have x3 := cell_regrown c2
                    have x4 := cell_regrown c3
                    clear c0 c1 c2 c3
                    refine region_qbw (by kernel_rfl) (by kernel_rfl) ?_
                    repeat (first | go_big_quiet_step (fail) | quiet_step (fail))
                    refine wpQuiet_nil ?_; intro wq hbq
                    have hyq := Lib.hid (hyw.out.trans (hbq.mono hsw))
                    clear x0 x1 x2 x3 x4 hbq
                    go_wp2_with fail
                    go_ret
                    exact ⟨by rw [HR.out]; rfl, hyq.out⟩
                  · have HU : Hid (upB st k3 = true) := Lib.hid (by simp [upB]; omega)
                    go_wp2_with fail
                    have x0 := cell_regrown a1
                    have x1 := cell_regrown c0
                    have x2 := cell_regrown c1
                    have x3 := cell_regrown c2
                    have x4 := cell_regrown c3
                    clear c0 c1 c2 c3
                    refine region_qbw (by kernel_rfl) (by kernel_rfl) ?_
                    repeat (first | go_big_quiet_step (fail) | quiet_step (fail))
                    refine wpQuiet_nil ?_; intro wq hbq
                    have hbw2 := Lib.hid (hbw.out.trans (hbq.mono hbw.out.size))
                    clear x0 x1 x2 x3 x4 hbq
                    go_wp2_with fail
                    go_roundw
                    case rel => exact ⟨k3 + 1, by omega, by go_num, Lib.hid (fun j hj => by rcases Nat.lt_or_ge j k3 with h | h; exact hall.out j h; rw [show j = k3 from by omega]; exact HU.out), hbw2⟩
                    case measure => simp [intOf]; omega
              · have HU : Hid (allN (upB st) (st.m - 1) = true) := Lib.hid (allN_iff.2 (fun j hj => hall.out j (by omega)))
                have hge3 : ¬ (k3 : Int) + 1 < (st.m : Int) := by omega
                clear hall
                go_wp2_with fail
                have hsz := hbw.out.size
                go_loopw [7] (fun i wr => ∃ k : Nat, k ≤ st.n ∧ i = .int .i64 k ∧ Hid (∀ j, j < k → decide ((st.P j).f ≤ (st.P j).hi) = true) ∧ Hid (Below W1.heap.size W1 wr)) (fun i _ => st.n - (intOf i).toNat)
                case atStart => exact ⟨0, Nat.zero_le _, rfl, Lib.hid (fun j hj => absurd hj (by omega)), hbw⟩
                case round =>
                  rename_i wr3
                  clear a1 hsw hyw hbw hsz
                  obtain ⟨k4, hk4, rfl, hall, hbw⟩ := hrel
                  have a0 := cell_same (hbw.out.block W.heap.size (by omega)) HA.out.1
                  have hyw : Hid (Below W.heap.size W wr) := Lib.hid (HB1.out.trans (hbw.out.mono (by omega)))
                  have hsw := hyw.out.size
                  by_cases hlt : k4 < st.n
                  · obtain ⟨b, o, rfl, hbl, c0, c1, c2, c3⟩ := (HP.out.below hyw.out) k4 hlt
                    have hk0 : (0 : Int) ≤ (k4 : Int) := by omega
                    have hkn : (k4 : Int) < (st.n : Int) := by omega
                    have hrng : Hid ((st.P k4).rng) := Lib.hid (pkRngB_iff.1 (allN_iff.1 HALL.out k4 hlt))
                    have hyo := hyw.out
                    by_cases z1 : (st.P k4).f ≤ (st.P k4).hi
                    · have hz : (((st.P k4).cnt : Int) == 0) = false := by rw [beq_eq_false_iff_ne]; unfold Pk.cnt; omega
                      go_wp2_with fail
                      refine (fouls_any (st.P k4) hrng.out _).mono ?_
                      rintro e w1 ⟨⟨A, c, rfl, hr, hc⟩, hb⟩
                      have hbx : Hid (Below W1.heap.size W1 w1) := Lib.hid (hbw.out.trans (hb.mono hbw.out.size))
                      clear hr hb
                      go_wp2_with fail
                      go_roundw
                      case rel => exact ⟨k4 + 1, by omega, by go_num, Lib.hid (fun j hj => by rcases Nat.lt_or_ge j k4 with h | h; exact hall.out j h; rw [show j = k4 from by omega]; simpa using z1), hbx⟩
                      case measure => simp [intOf]; omega
                    · have hz : (((st.P k4).cnt : Int) == 0) = true := by rw [beq_iff_eq]; unfold Pk.cnt; omega
                      have HR : Hid (st.check = 7) := Lib.hid (by unfold St.check; rw [if_neg HC.out, if_neg (by rw [HALL.out]; decide), if_neg HN.out, if_neg (by rw [HU.out]; decide), if_pos (allN_false (k := k4) hlt (by simpa using z1))])
                      go_wp2_with fail
                      refine (fouls_any (st.P k4) hrng.out _).mono ?_
                      rintro e w1 ⟨⟨A, c, rfl, hr, hc⟩, hb⟩
                      have hbx : Hid (Below W.heap.size W w1) := Lib.hid (hyo.trans (hb.mono hsw))
                      clear hr hb
                      go_wp2_with fail
                      go_ret
                      exact ⟨by rw [HR.out]; rfl, hbx.out⟩
                  · have hk4' : k4 = st.n := by omega
                    have hge4 : ¬ (k4 : Int) < (st.n : Int) := by omega
                    have HR : Hid (st.check = 0) := Lib.hid (by unfold St.check; rw [if_neg HC.out, if_neg (by rw [HALL.out]; decide), if_neg HN.out, if_neg (by rw [HU.out]; decide), if_neg (by rw [allN_iff.2 (fun j hj => hall.out j (by omega))]; decide)])
                    go_wp2_with fail
                    go_ret
                    exact ⟨by rw [HR.out]; rfl, hyw.out⟩

/-- the reference's Check -/
theorem rcheck_any (st : St) (B : Nat) (pA gA : Option Addr) (pc gc : Nat) (W : World) (hs : StRow W B st pA pc gA gc) :
    Calls Try.prog 54 #[stV pA st.n pc gA st.m gc st.lots] W fun e W' => e = .returned (.int .i64 st.check) ∧ Below W.heap.size W W' := by
  by_cases hc : ¬ (1 ≤ st.n ∧ st.n ≤ 4) ∨ 4 < st.m
  · have e : st.check = 3 := by unfold St.check; rw [if_pos hc]
    rw [e]
    exact rcheck_count st pA gA pc gc W hs.n hs.m hc
  · exact rcheck_in st pA gA pc gc W (hs.p.mono hs.lt) (hs.g.mono hs.lt) (by omega) (by omega) (by omega) hs.pc hs.gc
end Go.Proofs.Ytegmomappbehcaa
