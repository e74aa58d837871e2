/- Sure, Kept, Spare of package lot. -/
import Derived.Test.YtmbkngfcbgbeiaaGreatWi
set_option linter.unusedSimpArgs false
set_option linter.unusedVariables false
namespace Go.Proofs.YtmbkngfcbgbeiaaGreat
open Go.RowKit Go.Shelf

theorem St.foul_lt {st : St} (h : st.ok) : ∀ j i, i < j → j < st.m → (st.G i).foul < (st.G j).foul
  | 0, i, hi, _ => absurd hi (by omega)
  | j + 1, i, hi, hj => by
    have h1 := (h.up j hj).1
    rcases Nat.lt_or_ge i j with h2 | h2
    · have := St.foul_lt h j i h2 (by omega); omega
    · have : i = j := by omega
      subst this; exact h1
theorem St.grade_ne {st : St} (h : st.ok) {x : Bag} {k : Nat} (hk : k < st.m) (hne : k ≠ st.first x) : (st.G k).foul ≠ (st.grade x).foul ∨ (st.G k).price ≠ (st.grade x).price := by
  unfold St.grade
  split
  · rename_i hf
    left
    rcases Nat.lt_or_ge k (st.first x) with h1 | h1
    · have := St.foul_lt h _ _ h1 hf; omega
    · have := St.foul_lt h _ _ (show st.first x < k by omega) hk; omega
  · right
    have := (h.gd k hk).2
    show (st.G k).price ≠ 0
    omega
def St.sureI (st : St) (x : Bag) : Int := if st.first x < st.m then (st.first x : Int) else -1
def St.sureR (st : St) (n : Nat) (X : Nat → Int) : Int × Int :=
  if st.askErr n X ≠ 0 then (0, st.askErr n X) else (st.sureI (bagOf X n), 0)

set_option maxRecDepth 100000 in
set_option maxHeartbeats 1000000 in
/-- lot.Sure -/
theorem Sure_any (st : St) (B : Nat) (pA gA : Option Addr) (pc gc : Nat) (lA : Option Addr) (ln lc : Nat) (X : Nat → Int) (W : World) (hs : StRow W B st pA pc gA gc) (hl : IntRow W W.heap.size lA ln X) (hn : ln ≤ 1000) :
    Calls Tryz.prog 17 #[stV pA st.n pc gA st.m gc st.lots, .slice lA ln lc] W fun e W' => e = .returned (nuV (st.sureR ln X)) ∧ Below W.heap.size W W' := by
  have HS := Lib.hid hs; have hB := hs.lt; have HL := Lib.hid hl; clear hs hl
  by_cases h0 : st.askErr ln X = 0
  · have hnb : (st.askErr ln X != 0) = false := by simpa using h0
    have H0 := Lib.hid h0
    clear h0
    go_enter Tryz.func17, Tryz.ntmps17
    go_wp2_with fail
    refine (asked_any st B pA gA pc gc lA ln lc X _ (HS.out.later (by repeat (first | (with_reducible exact Below.refl _ _) | (with_reducible refine Below.drew ?_) | (with_reducible refine below_drewN ?_ _) | ((with_reducible refine below_alloc ?_ ?_ _); · (first | exact Nat.le_refl _ | omega | (simp; done) | (simp; omega) | (simp at *; omega))) | ((with_reducible refine below_set ?_ ?_ _); · (first | exact Nat.le_refl _ | omega | (simp; done) | (simp; omega) | (simp at *; omega))) | ((with_reducible refine below_via (by with_reducible assumption) ?_ ?_); · (first | exact Nat.le_refl _ | omega | (simp; done) | (simp; omega) | (simp at *; omega)))))) (HL.out.later (by repeat (first | (with_reducible exact Below.refl _ _) | (with_reducible refine Below.drew ?_) | (with_reducible refine below_drewN ?_ _) | ((with_reducible refine below_alloc ?_ ?_ _); · (first | exact Nat.le_refl _ | omega | (simp; done) | (simp; omega) | (simp at *; omega))) | ((with_reducible refine below_set ?_ ?_ _); · (first | exact Nat.le_refl _ | omega | (simp; done) | (simp; omega) | (simp at *; omega))) | ((with_reducible refine below_via (by with_reducible assumption) ?_ ?_); · (first | exact Nat.le_refl _ | omega | (simp; done) | (simp; omega) | (simp at *; omega)))))) hn).mono ?_; rintro e w1 ⟨hb1, ⟨h0, db, rfl, hD, hdb⟩ | ⟨h0, p, rfl⟩⟩
    · obtain ⟨hc1, hf1⟩ := bcell hb1; have hz1 := hb1.size; (try simp only [World.size_drew, World.heap_drewN, World.size_alloc] at hz1)
      have HD := Lib.hid hD
      have HA := Lib.hid (St.askErr_ok h0)
      have HI : Hid ((bagOf X ln).in_ st.all) := Lib.hid (by obtain ⟨_, h, rfl⟩ := HA.out; exact bagOf_in h)
      have m4 := HA.out.1.m4
      generalize hxe' : bagOf X ln = x at HI ⊢
      have hxe := Lib.hid hxe'
      clear hxe'
      clear hc1 hf1 h0 hD
      go_wp2_with fail
      refine (first_any st HA.out.1 x db _ ((HD.out.at (by simp at hdb; omega)).later (by repeat (first | (with_reducible exact Below.refl _ _) | (with_reducible refine Below.drew ?_) | (with_reducible refine below_drewN ?_ _) | ((with_reducible refine below_alloc ?_ ?_ _); · (first | exact Nat.le_refl _ | omega | (simp; done) | (simp; omega) | (simp at *; omega))) | ((with_reducible refine below_set ?_ ?_ _); · (first | exact Nat.le_refl _ | omega | (simp; done) | (simp; omega) | (simp at *; omega))) | ((with_reducible refine below_via (by with_reducible assumption) ?_ ?_); · (first | exact Nat.le_refl _ | omega | (simp; done) | (simp; omega) | (simp at *; omega)))))) HI.out).mono ?_
      rintro e w2 ⟨rfl, hb2⟩
      obtain ⟨hc2, hf2⟩ := bcell hb2; have hz2 := hb2.size; (try simp only [World.size_drew, World.heap_drewN, World.size_alloc] at hz2)
      have hy : Hid (Below W.heap.size W w2) := Lib.hid (by repeat (first | (with_reducible exact Below.refl _ _) | (with_reducible refine Below.drew ?_) | (with_reducible refine below_drewN ?_ _) | ((with_reducible refine below_alloc ?_ ?_ _); · (first | exact Nat.le_refl _ | omega | (simp; done) | (simp; omega) | (simp at *; omega))) | ((with_reducible refine below_set ?_ ?_ _); · (first | exact Nat.le_refl _ | omega | (simp; done) | (simp; omega) | (simp at *; omega))) | ((with_reducible refine below_via (by with_reducible assumption) ?_ ?_); · (first | exact Nat.le_refl _ | omega | (simp; done) | (simp; omega) | (simp at *; omega)))))
      have hD2 := (HD.out.later (by simp at hdb; omega) (show Below w1.heap.size w1 w2 from (by repeat (first | (with_reducible exact Below.refl _ _) | (with_reducible refine Below.drew ?_) | (with_reducible refine below_drewN ?_ _) | ((with_reducible refine below_alloc ?_ ?_ _); · (first | exact Nat.le_refl _ | omega | (simp; done) | (simp; omega) | (simp at *; omega))) | ((with_reducible refine below_set ?_ ?_ _); · (first | exact Nat.le_refl _ | omega | (simp; done) | (simp; omega) | (simp at *; omega))) | ((with_reducible refine below_via (by with_reducible assumption) ?_ ?_); · (first | exact Nat.le_refl _ | omega | (simp; done) | (simp; omega) | (simp at *; omega))))))).at (by simp at hdb; omega)
      have hd2 : db < w2.heap.size := hD2.lt
      obtain ⟨pA', pc', gA', gc', hp, hg, q0, q1, q2, q3⟩ := hD2.rows
      have HG := Lib.hid hg
      clear hc2 hf2 hb1 hb2 hD2 hp hg
      go_wp2_with fail
      go_loopw [31] (fun i wr => ∃ k : Nat, k ≤ st.m ∧ i = .int .i64 k ∧ Hid (∀ j, j < k → j ≠ st.first x) ∧ Hid (Below w2.heap.size w2 wr) ∧ w2.heap.size + 1 ≤ wr.heap.size ∧ wr.cell? ⟨w2.heap.size, 0, none⟩ = some (.int .i64 (st.grade x).foul) ∧ wr.cell? ⟨w2.heap.size, 1, none⟩ = some (.int .i64 (st.grade x).price)) (fun i _ => st.m - (intOf i).toNat)
      case atStart => exact ⟨0, Nat.zero_le _, rfl, Lib.hid (fun j hj => absurd hj (by omega)), Lib.hid (by repeat (first | (with_reducible exact Below.refl _ _) | (with_reducible refine Below.drew ?_) | (with_reducible refine below_drewN ?_ _) | ((with_reducible refine below_alloc ?_ ?_ _); · (first | exact Nat.le_refl _ | omega | (simp; done) | (simp; omega) | (simp at *; omega))) | ((with_reducible refine below_set ?_ ?_ _); · (first | exact Nat.le_refl _ | omega | (simp; done) | (simp; omega) | (simp at *; omega))) | ((with_reducible refine below_via (by with_reducible assumption) ?_ ?_); · (first | exact Nat.le_refl _ | omega | (simp; done) | (simp; omega) | (simp at *; omega))))), by simp, by simp [go_sem], by simp [go_sem]⟩
      case round =>
        obtain ⟨k, hk, rfl, hall, hbw, hsz, g0, g1⟩ := hrel
        by_cases hlt : k < st.m
        · obtain ⟨b, o, hA', hb', c0, c1⟩ := (HG.out.below hbw.out) k hlt
          subst hA'
          have hblt : b < wr.heap.size := by omega
          have hw2lt : w2.heap.size < wr.heap.size := by omega
          by_cases hkf : k = st.first x
          · have hgr : st.grade x = st.G k := by unfold St.grade; rw [← hkf, if_pos hlt]
            have HR : Hid (st.sureI x = (k : Int)) := Lib.hid (by unfold St.sureI; rw [← hkf, if_pos hlt])
            have HRR : Hid (st.sureR ln X = (st.sureI x, 0)) := Lib.hid (by unfold St.sureR; rw [if_neg (by simp [H0.out]), hxe.out])
            rw [hgr] at g0 g1
            have e1 : ((st.G k).foul == (st.G k).foul) = true := by simp
            clear hgr hkf
            have hyo := hy.out
            have hbo := hbw.out
            go_wp2_with fail
            go_ret2
            exact ⟨by rw [HRR.out, HR.out]; rfl, (by repeat (first | (with_reducible exact Below.refl _ _) | (with_reducible refine Below.drew ?_) | (with_reducible refine below_drewN ?_ _) | ((with_reducible refine below_alloc ?_ ?_ _); · (first | exact Nat.le_refl _ | omega | (simp; done) | (simp; omega) | (simp at *; omega))) | ((with_reducible refine below_set ?_ ?_ _); · (first | exact Nat.le_refl _ | omega | (simp; done) | (simp; omega) | (simp at *; omega))) | ((with_reducible refine below_via (by with_reducible assumption) ?_ ?_); · (first | exact Nat.le_refl _ | omega | (simp; done) | (simp; omega) | (simp at *; omega)))))⟩
          · have hne := St.grade_ne HA.out.1 hlt hkf (x := x)
            have hU : Hid (∀ j, j < k + 1 → j ≠ st.first x) := Lib.hid (fun j hj => by rcases Nat.lt_or_ge j k with h | h; exact hall.out j h; rw [show j = k from by omega]; exact hkf)
            have hb2 : Hid (Below w2.heap.size w2 (wr.alloc (Obj.cells #[.int .i64 (st.G k).foul, .int .i64 (st.G k).price] 58))) := Lib.hid (by have hbo := hbw.out; exact (by repeat (first | (with_reducible exact Below.refl _ _) | (with_reducible refine Below.drew ?_) | (with_reducible refine below_drewN ?_ _) | ((with_reducible refine below_alloc ?_ ?_ _); · (first | exact Nat.le_refl _ | omega | (simp; done) | (simp; omega) | (simp at *; omega))) | ((with_reducible refine below_set ?_ ?_ _); · (first | exact Nat.le_refl _ | omega | (simp; done) | (simp; omega) | (simp at *; omega))) | ((with_reducible refine below_via (by with_reducible assumption) ?_ ?_); · (first | exact Nat.le_refl _ | omega | (simp; done) | (simp; omega) | (simp at *; omega))))))
            clear hkf
            cases e1 : ((st.G k).foul == (st.grade x).foul) with
            | true =>
              have e2 : ((st.G k).price == (st.grade x).price) = false := by
                rcases hne with h | h
                · exact absurd (beq_iff_eq.1 e1) h
                · exact beq_eq_false_iff_ne.2 h
              clear hne
              go_wp2_with fail
              go_roundw
              case rel => exact ⟨k + 1, by omega, by go_num, hU, hb2, by simp; omega, by simp [go_sem, g0], by simp [go_sem, g1]⟩
              case measure => simp [intOf]; omega
            | false =>
              clear hne
              go_wp2_with fail
              go_roundw
              case rel => exact ⟨k + 1, by omega, by go_num, hU, hb2, by simp; omega, by simp [go_sem, g0], by simp [go_sem, g1]⟩
              case measure => simp [intOf]; omega
        · have hk' : k = st.m := by omega
          have hnf : ¬ st.first x < st.m := fun h => hall.out _ (by omega) rfl
          have HR : Hid (st.sureI x = -1) := Lib.hid (by unfold St.sureI; rw [if_neg hnf])
          have HRR : Hid (st.sureR ln X = (st.sureI x, 0)) := Lib.hid (by unfold St.sureR; rw [if_neg (by simp [H0.out]), hxe.out])
          clear hnf hk'
          have hyo := hy.out
          have hbo := hbw.out
          go_wp2_with fail
          go_ret2
          exact ⟨by rw [HRR.out, HR.out]; rfl, (by repeat (first | (with_reducible exact Below.refl _ _) | (with_reducible refine Below.drew ?_) | (with_reducible refine below_drewN ?_ _) | ((with_reducible refine below_alloc ?_ ?_ _); · (first | exact Nat.le_refl _ | omega | (simp; done) | (simp; omega) | (simp at *; omega))) | ((with_reducible refine below_set ?_ ?_ _); · (first | exact Nat.le_refl _ | omega | (simp; done) | (simp; omega) | (simp at *; omega))) | ((with_reducible refine below_via (by with_reducible assumption) ?_ ?_); · (first | exact Nat.le_refl _ | omega | (simp; done) | (simp; omega) | (simp at *; omega)))))⟩
    · exact absurd H0.out h0
  · have HR : Hid (st.sureR ln X = (0, st.askErr ln X)) := Lib.hid (by unfold St.sureR; rw [if_pos h0])
    have hnb : (st.askErr ln X != 0) = true := by simpa using h0
    have H0 := Lib.hid h0
    clear h0
    go_enter Tryz.func17, Tryz.ntmps17
    go_wp2_with fail
    refine (asked_any st B pA gA pc gc lA ln lc X _ (HS.out.later (by repeat (first | (with_reducible exact Below.refl _ _) | (with_reducible refine Below.drew ?_) | (with_reducible refine below_drewN ?_ _) | ((with_reducible refine below_alloc ?_ ?_ _); · (first | exact Nat.le_refl _ | omega | (simp; done) | (simp; omega) | (simp at *; omega))) | ((with_reducible refine below_set ?_ ?_ _); · (first | exact Nat.le_refl _ | omega | (simp; done) | (simp; omega) | (simp at *; omega))) | ((with_reducible refine below_via (by with_reducible assumption) ?_ ?_); · (first | exact Nat.le_refl _ | omega | (simp; done) | (simp; omega) | (simp at *; omega)))))) (HL.out.later (by repeat (first | (with_reducible exact Below.refl _ _) | (with_reducible refine Below.drew ?_) | (with_reducible refine below_drewN ?_ _) | ((with_reducible refine below_alloc ?_ ?_ _); · (first | exact Nat.le_refl _ | omega | (simp; done) | (simp; omega) | (simp at *; omega))) | ((with_reducible refine below_set ?_ ?_ _); · (first | exact Nat.le_refl _ | omega | (simp; done) | (simp; omega) | (simp at *; omega))) | ((with_reducible refine below_via (by with_reducible assumption) ?_ ?_); · (first | exact Nat.le_refl _ | omega | (simp; done) | (simp; omega) | (simp at *; omega)))))) hn).mono ?_; rintro e w1 ⟨hb1, ⟨h0, db, rfl, hD, hdb⟩ | ⟨h0, p, rfl⟩⟩
    · exact absurd h0 H0.out
    obtain ⟨hc1, hf1⟩ := bcell hb1; have hz1 := hb1.size; (try simp only [World.size_drew, World.heap_drewN, World.size_alloc] at hz1)
    clear hc1 hf1 h0
    go_wp2_with fail
    go_ret2
    exact ⟨by rw [HR.out]; rfl, (by repeat (first | (with_reducible exact Below.refl _ _) | (with_reducible refine Below.drew ?_) | (with_reducible refine below_drewN ?_ _) | ((with_reducible refine below_alloc ?_ ?_ _); · (first | exact Nat.le_refl _ | omega | (simp; done) | (simp; omega) | (simp at *; omega))) | ((with_reducible refine below_set ?_ ?_ _); · (first | exact Nat.le_refl _ | omega | (simp; done) | (simp; omega) | (simp at *; omega))) | ((with_reducible refine below_via (by with_reducible assumption) ?_ ?_); · (first | exact Nat.le_refl _ | omega | (simp; done) | (simp; omega) | (simp at *; omega)))))⟩

/-- a bool and an error -/
abbrev boV (r : Bool × Int) : Value := .tuple #[.bool r.1, .int .i64 r.2]
def St.keptR (st : St) (n : Nat) (X : Nat → Int) (opened most : Int) : Bool × Int :=
  if st.askErr n X ≠ 0 then (false, st.askErr n X) else if inB opened 0 (bagOf X n).size = false ∨ most < 0 then (false, 4) else (decide (min opened (st.hi (bagOf X n)) ≤ most), 0)

set_option maxRecDepth 100000 in
set_option maxHeartbeats 1000000 in
/-- lot.Kept -/
theorem Kept_any (st : St) (B : Nat) (pA gA : Option Addr) (pc gc : Nat) (lA : Option Addr) (ln lc : Nat) (X : Nat → Int) (opened most : Int) (W : World) (hs : StRow W B st pA pc gA gc) (hl : IntRow W W.heap.size lA ln X) (hn : ln ≤ 1000) :
    Calls Tryz.prog 42 #[stV pA st.n pc gA st.m gc st.lots, .slice lA ln lc, .int .i64 opened, .int .i64 most] W fun e W' => e = .returned (boV (st.keptR ln X opened most)) ∧ Below W.heap.size W W' := by
  have HS := Lib.hid hs; have hB := hs.lt; have HL := Lib.hid hl; clear hs hl
  by_cases h0 : st.askErr ln X = 0
  · have hnb : (st.askErr ln X != 0) = false := by simpa using h0
    have H0 := Lib.hid h0
    have HR0 : Hid (st.keptR ln X opened most = if inB opened 0 (bagOf X ln).size = false ∨ most < 0 then (false, 4) else (decide (min opened (st.hi (bagOf X ln)) ≤ most), 0)) := Lib.hid (by unfold St.keptR; rw [if_neg (by simp [h0])])
    clear h0
    go_enter Tryz.func42, Tryz.ntmps42
    go_wp2_with fail
    refine (asked_any st B pA gA pc gc lA ln lc X _ (HS.out.later (by repeat (first | (with_reducible exact Below.refl _ _) | (with_reducible refine Below.drew ?_) | (with_reducible refine below_drewN ?_ _) | ((with_reducible refine below_alloc ?_ ?_ _); · (first | exact Nat.le_refl _ | omega | (simp; done) | (simp; omega) | (simp at *; omega))) | ((with_reducible refine below_set ?_ ?_ _); · (first | exact Nat.le_refl _ | omega | (simp; done) | (simp; omega) | (simp at *; omega))) | ((with_reducible refine below_via (by with_reducible assumption) ?_ ?_); · (first | exact Nat.le_refl _ | omega | (simp; done) | (simp; omega) | (simp at *; omega)))))) (HL.out.later (by repeat (first | (with_reducible exact Below.refl _ _) | (with_reducible refine Below.drew ?_) | (with_reducible refine below_drewN ?_ _) | ((with_reducible refine below_alloc ?_ ?_ _); · (first | exact Nat.le_refl _ | omega | (simp; done) | (simp; omega) | (simp at *; omega))) | ((with_reducible refine below_set ?_ ?_ _); · (first | exact Nat.le_refl _ | omega | (simp; done) | (simp; omega) | (simp at *; omega))) | ((with_reducible refine below_via (by with_reducible assumption) ?_ ?_); · (first | exact Nat.le_refl _ | omega | (simp; done) | (simp; omega) | (simp at *; omega)))))) hn).mono ?_; rintro e w1 ⟨hb1, ⟨h0, db, rfl, hD, hdb⟩ | ⟨h0, p, rfl⟩⟩
    · obtain ⟨hc1, hf1⟩ := bcell hb1; have hz1 := hb1.size; (try simp only [World.size_drew, World.heap_drewN, World.size_alloc] at hz1)
      have HD := Lib.hid hD; have HA := Lib.hid (St.askErr_ok h0); have HI : Hid ((bagOf X ln).in_ st.all) := Lib.hid (by obtain ⟨_, h, rfl⟩ := HA.out; exact bagOf_in h); have HX := Lib.hid (fun k hk => St.in_all HI.out k hk (Nat.lt_of_lt_of_le hk HA.out.1.n4)); have H6 := Lib.hid (St.in_six HA.out.1 HI.out); have hdb2 := hdb; simp only [World.size_alloc] at hdb2
      generalize hxe' : bagOf X ln = x at HI HX H6 HR0 ⊢
      clear hxe' hc1 hf1 h0 hD
      cases hin : inB opened 0 x.size with
      | false =>
        have HR : Hid (st.keptR ln X opened most = (false, 4)) := Lib.hid (by rw [HR0.out, if_pos (.inl hin)])
        go_wp2_with (first | (go_at_call 68; refine (bsize_any x _ H6.out).mono ?_; rintro e w2 ⟨rfl, hb2⟩; obtain ⟨hc2, hf2⟩ := bcell hb2; have hz2 := hb2.size; (try simp only [World.size_drew, World.heap_drewN, World.size_alloc] at hz2)) | (go_at_call 67; refine (in_any _ _ _ _).mono ?_; rintro e w' ⟨rfl, rfl⟩))
        go_ret2
        exact ⟨by rw [HR.out]; rfl, (by repeat (first | (with_reducible exact Below.refl _ _) | (with_reducible refine Below.drew ?_) | (with_reducible refine below_drewN ?_ _) | ((with_reducible refine below_alloc ?_ ?_ _); · (first | exact Nat.le_refl _ | omega | (simp; done) | (simp; omega) | (simp at *; omega))) | ((with_reducible refine below_set ?_ ?_ _); · (first | exact Nat.le_refl _ | omega | (simp; done) | (simp; omega) | (simp at *; omega))) | ((with_reducible refine below_via (by with_reducible assumption) ?_ ?_); · (first | exact Nat.le_refl _ | omega | (simp; done) | (simp; omega) | (simp at *; omega)))))⟩
      | true =>
        have hin' := Lib.hid hin
        cases hm : decide (most < 0) with
        | true =>
          have HR : Hid (st.keptR ln X opened most = (false, 4)) := Lib.hid (by rw [HR0.out, if_pos (.inr (by simpa using hm))])
          go_wp2_with (first | (go_at_call 68; refine (bsize_any x _ H6.out).mono ?_; rintro e w2 ⟨rfl, hb2⟩; obtain ⟨hc2, hf2⟩ := bcell hb2; have hz2 := hb2.size; (try simp only [World.size_drew, World.heap_drewN, World.size_alloc] at hz2)) | (go_at_call 67; refine (in_any _ _ _ _).mono ?_; rintro e w' ⟨rfl, rfl⟩))
          go_ret2
          exact ⟨by rw [HR.out]; rfl, (by repeat (first | (with_reducible exact Below.refl _ _) | (with_reducible refine Below.drew ?_) | (with_reducible refine below_drewN ?_ _) | ((with_reducible refine below_alloc ?_ ?_ _); · (first | exact Nat.le_refl _ | omega | (simp; done) | (simp; omega) | (simp at *; omega))) | ((with_reducible refine below_set ?_ ?_ _); · (first | exact Nat.le_refl _ | omega | (simp; done) | (simp; omega) | (simp at *; omega))) | ((with_reducible refine below_via (by with_reducible assumption) ?_ ?_); · (first | exact Nat.le_refl _ | omega | (simp; done) | (simp; omega) | (simp at *; omega)))))⟩
        | false =>
          have HR : Hid (st.keptR ln X opened most = (decide (min opened (st.hi x) ≤ most), 0)) := Lib.hid (by rw [HR0.out, if_neg (by simp only [hin'.out]; simpa using hm)])
          go_wp2_with (first | (go_at_call 68; refine (bsize_any x _ H6.out).mono ?_; rintro e w2 ⟨rfl, hb2⟩; obtain ⟨hc2, hf2⟩ := bcell hb2; have hz2 := hb2.size; (try simp only [World.size_drew, World.heap_drewN, World.size_alloc] at hz2)) | (go_at_call 67; refine (in_any _ _ _ _).mono ?_; rintro e w' ⟨rfl, rfl⟩) | (go_at_call 66; refine (dspan_any st HA.out.1 x db _ ((HD.out.at (by omega)).later (by repeat (first | (with_reducible exact Below.refl _ _) | (with_reducible refine Below.drew ?_) | (with_reducible refine below_drewN ?_ _) | ((with_reducible refine below_alloc ?_ ?_ _); · (first | exact Nat.le_refl _ | omega | (simp; done) | (simp; omega) | (simp at *; omega))) | ((with_reducible refine below_set ?_ ?_ _); · (first | exact Nat.le_refl _ | omega | (simp; done) | (simp; omega) | (simp at *; omega))) | ((with_reducible refine below_via (by with_reducible assumption) ?_ ?_); · (first | exact Nat.le_refl _ | omega | (simp; done) | (simp; omega) | (simp at *; omega)))))) HX.out).mono ?_; rintro e w3 ⟨rfl, hb3⟩))
          go_ret2
          exact ⟨by rw [HR.out]; rfl, (by repeat (first | (with_reducible exact Below.refl _ _) | (with_reducible refine Below.drew ?_) | (with_reducible refine below_drewN ?_ _) | ((with_reducible refine below_alloc ?_ ?_ _); · (first | exact Nat.le_refl _ | omega | (simp; done) | (simp; omega) | (simp at *; omega))) | ((with_reducible refine below_set ?_ ?_ _); · (first | exact Nat.le_refl _ | omega | (simp; done) | (simp; omega) | (simp at *; omega))) | ((with_reducible refine below_via (by with_reducible assumption) ?_ ?_); · (first | exact Nat.le_refl _ | omega | (simp; done) | (simp; omega) | (simp at *; omega)))))⟩
    · exact absurd H0.out h0
  · have HR : Hid (st.keptR ln X opened most = (false, st.askErr ln X)) := Lib.hid (by unfold St.keptR; rw [if_pos h0])
    have hnb : (st.askErr ln X != 0) = true := by simpa using h0
    have H0 := Lib.hid h0
    clear h0
    go_enter Tryz.func42, Tryz.ntmps42
    go_wp2_with fail
    refine (asked_any st B pA gA pc gc lA ln lc X _ (HS.out.later (by repeat (first | (with_reducible exact Below.refl _ _) | (with_reducible refine Below.drew ?_) | (with_reducible refine below_drewN ?_ _) | ((with_reducible refine below_alloc ?_ ?_ _); · (first | exact Nat.le_refl _ | omega | (simp; done) | (simp; omega) | (simp at *; omega))) | ((with_reducible refine below_set ?_ ?_ _); · (first | exact Nat.le_refl _ | omega | (simp; done) | (simp; omega) | (simp at *; omega))) | ((with_reducible refine below_via (by with_reducible assumption) ?_ ?_); · (first | exact Nat.le_refl _ | omega | (simp; done) | (simp; omega) | (simp at *; omega)))))) (HL.out.later (by repeat (first | (with_reducible exact Below.refl _ _) | (with_reducible refine Below.drew ?_) | (with_reducible refine below_drewN ?_ _) | ((with_reducible refine below_alloc ?_ ?_ _); · (first | exact Nat.le_refl _ | omega | (simp; done) | (simp; omega) | (simp at *; omega))) | ((with_reducible refine below_set ?_ ?_ _); · (first | exact Nat.le_refl _ | omega | (simp; done) | (simp; omega) | (simp at *; omega))) | ((with_reducible refine below_via (by with_reducible assumption) ?_ ?_); · (first | exact Nat.le_refl _ | omega | (simp; done) | (simp; omega) | (simp at *; omega)))))) hn).mono ?_; rintro e w1 ⟨hb1, ⟨h0, db, rfl, hD, hdb⟩ | ⟨h0, p, rfl⟩⟩
    · exact absurd h0 H0.out
    obtain ⟨hc1, hf1⟩ := bcell hb1; have hz1 := hb1.size; (try simp only [World.size_drew, World.heap_drewN, World.size_alloc] at hz1)
    clear hc1 hf1 h0
    go_wp2_with fail
    go_ret2
    exact ⟨by rw [HR.out]; rfl, (by repeat (first | (with_reducible exact Below.refl _ _) | (with_reducible refine Below.drew ?_) | (with_reducible refine below_drewN ?_ _) | ((with_reducible refine below_alloc ?_ ?_ _); · (first | exact Nat.le_refl _ | omega | (simp; done) | (simp; omega) | (simp at *; omega))) | ((with_reducible refine below_set ?_ ?_ _); · (first | exact Nat.le_refl _ | omega | (simp; done) | (simp; omega) | (simp at *; omega))) | ((with_reducible refine below_via (by with_reducible assumption) ?_ ?_); · (first | exact Nat.le_refl _ | omega | (simp; done) | (simp; omega) | (simp at *; omega)))))⟩
end Go.Proofs.YtmbkngfcbgbeiaaGreat
