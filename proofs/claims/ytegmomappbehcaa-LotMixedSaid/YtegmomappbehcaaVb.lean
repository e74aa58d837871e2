/- Bad of package lot. -/
import Derived.Test.YtegmomappbehcaaWy
import Derived.Test.YtegmomappbehcaaTo
import Derived.Deep.AppendLies
import Derived.Deep.RegionHeldLaw
import Derived.Test.YtegmomappbehcaaTr
set_option linter.unusedSimpArgs false
set_option linter.unusedVariables false
namespace Go.Proofs.Ytegmomappbehcaa
open Go.RowKit Go.Shelf

/-- what Bad gives -/
def BadPost (st : St) (n : Nat) (X : Nat → Int) (W : World) (e : Ending) (W' : World) : Prop :=
  Below W.heap.size W W' ∧ ((st.askErr n X = 0 ∧ ∃ A c A2 c2, e = .returned (.tuple #[.slice A st.n c, .slice A2 st.n c2, .int .i64 0]) ∧ IntRow W' W'.heap.size A st.n (fun k => (st.P k).hi) ∧ IntRow W' W'.heap.size A2 st.n (fun k => (st.P k).hiOf (X k)) ∧ st.n ≤ c ∧ st.n ≤ c2) ∨
    (st.askErr n X ≠ 0 ∧ e = .returned (.tuple #[.slice none 0 0, .slice none 0 0, .int .i64 (st.askErr n X)])))

set_option maxRecDepth 100000 in
set_option maxHeartbeats 8000000 in
theorem Bad_any (st : St) (B : Nat) (pA gA : Option Addr) (pc gc : Nat) (lA : Option Addr) (ln lc : Nat) (X : Nat → Int) (W : World) (hs : StRow W B st pA pc gA gc) (hl : IntRow W W.heap.size lA ln X) (hn : ln ≤ 1000) :
    Calls Try.prog 51 #[stV pA st.n pc gA st.m gc st.lots, .slice lA ln lc] W (BadPost st ln X W) := by
  have HS := Lib.hid hs; have hB := hs.lt; have HL := Lib.hid hl; clear hs hl
  go_enter Try.func51, Try.ntmps51
  go_wp2_with fail
  refine (asked_any st B pA gA pc gc lA ln lc X _ (HS.out.later (by repeat (first | (with_reducible exact Below.refl _ _) | (with_reducible refine Below.drew ?_) | (with_reducible refine below_drewN ?_ _) | ((with_reducible refine below_alloc ?_ ?_ _); · (first | exact Nat.le_refl _ | omega | (simp; done) | (simp; omega) | (simp at *; omega))) | ((with_reducible refine below_set ?_ ?_ _); · (first | exact Nat.le_refl _ | omega | (simp; done) | (simp; omega) | (simp at *; omega))) | ((with_reducible refine below_via (by with_reducible assumption) ?_ ?_); · (first | exact Nat.le_refl _ | omega | (simp; done) | (simp; omega) | (simp at *; omega)))))) (HL.out.later (by repeat (first | (with_reducible exact Below.refl _ _) | (with_reducible refine Below.drew ?_) | (with_reducible refine below_drewN ?_ _) | ((with_reducible refine below_alloc ?_ ?_ _); · (first | exact Nat.le_refl _ | omega | (simp; done) | (simp; omega) | (simp at *; omega))) | ((with_reducible refine below_set ?_ ?_ _); · (first | exact Nat.le_refl _ | omega | (simp; done) | (simp; omega) | (simp at *; omega))) | ((with_reducible refine below_via (by with_reducible assumption) ?_ ?_); · (first | exact Nat.le_refl _ | omega | (simp; done) | (simp; omega) | (simp at *; omega)))))) hn).mono ?_; rintro e w1 ⟨hb1, ⟨h0, db, rfl, hD, hdb⟩ | ⟨h0, p, rfl⟩⟩
  · have hs1 := hb1.size
    have HB1 := Lib.hid (show Below W.heap.size W w1 from (by repeat (first | (with_reducible exact Below.refl _ _) | (with_reducible refine Below.drew ?_) | (with_reducible refine below_drewN ?_ _) | ((with_reducible refine below_alloc ?_ ?_ _); · (first | exact Nat.le_refl _ | omega | (simp; done) | (simp; omega) | (simp at *; omega))) | ((with_reducible refine below_set ?_ ?_ _); · (first | exact Nat.le_refl _ | omega | (simp; done) | (simp; omega) | (simp at *; omega))) | ((with_reducible refine below_via (by with_reducible assumption) ?_ ?_); · (first | exact Nat.le_refl _ | omega | (simp; done) | (simp; omega) | (simp at *; omega))))))
    have HST := Lib.hid (St.askErr_ok h0).1
    have HX := Lib.hid (ask_rng h0)
    have H0 := Lib.hid h0
    obtain rfl : ln = st.n := (St.askErr_ok h0).2.2
    have n4 := HST.out.n4
    have HXB := Lib.hid (fun k (hk : k < st.n) => bagOf_at (X := X) hk (show k < 4 by omega))
    simp only [World.size_alloc] at hdb hs1
    obtain ⟨pA', pc', gA', gc', hpr, _, q0, _, _, _⟩ := hD.rows
    have HPR := Lib.hid hpr
    have hdl := hD.lt
    generalize bagOf X st.n = x at *
    obtain ⟨i0, hi, hz0, hz1, hz2⟩ := info_parts infoInt
    clear hb1 hD h0 hpr
    go_wp2_with fail
    have HQ0 := Lib.hid q0
    have HBG0 := Lib.hid (show BagAt (w1.alloc (.cells #[.int .i64 x.a, .int .i64 x.b, .int .i64 x.c, .int .i64 x.d] 123)) w1.heap.size x from (by (repeat' refine And.intro ?_ ?_) <;> (repeat (first | (with_reducible assumption) | (simp; done) | (with_reducible refine cell_drew_of ?_) | (with_reducible refine cell_drewN_of ?_) | (with_reducible refine cell_below_of (by with_reducible assumption) ?_) | ((with_reducible refine cell_new_of ?_ ?_) <;> (first | (with_reducible rfl) | (simp; done))) | ((with_reducible refine fro_new_of ?_) <;> (first | (with_reducible rfl) | (simp; done))) | (with_reducible refine cell_alloc_of _ ?_) | (with_reducible refine cell_set_of _ (by (first | exact Nat.le_refl _ | omega | (simp; done) | (simp; omega))) ?_) | (with_reducible refine fro_drew_of ?_) | (with_reducible refine fro_drewN_of ?_) | (with_reducible refine fro_below_of (by with_reducible assumption) (by (first | exact Nat.le_refl _ | omega | (simp; done) | (simp; omega))) ?_) | (with_reducible refine fro_alloc_of _ (by (first | exact Nat.le_refl _ | omega | (simp; done) | (simp; omega))) ?_) | (with_reducible refine fro_set_of _ ?_)))))
    clear q0
    refine (ends_any _).mono ?_
    rintro e w2 ⟨rfl, hb2⟩
    have hs2 := hb2.size
    simp only [World.size_alloc] at hs2
    have HBG2 := Lib.hid (HBG0.out.later hb2)
    have q2 : w2.cell? ⟨db, 0, none⟩ = some (.slice pA' st.n pc') := cell_below_of hb2 (cell_alloc_of _ HQ0.out)
    have HB2 := Lib.hid (show Below w1.heap.size w1 w2 from (by repeat (first | (with_reducible exact Below.refl _ _) | (with_reducible refine Below.drew ?_) | (with_reducible refine below_drewN ?_ _) | ((with_reducible refine below_alloc ?_ ?_ _); · (first | exact Nat.le_refl _ | omega | (simp; done) | (simp; omega) | (simp at *; omega))) | ((with_reducible refine below_set ?_ ?_ _); · (first | exact Nat.le_refl _ | omega | (simp; done) | (simp; omega) | (simp at *; omega))) | ((with_reducible refine below_via (by with_reducible assumption) ?_ ?_); · (first | exact Nat.le_refl _ | omega | (simp; done) | (simp; omega) | (simp at *; omega))))))
    clear hb2
    go_wp2_with fail
    refine wp_world (fun W1 => W1.cell? ⟨w2.heap.size + 1, 0, none⟩ = some (.func (.func 129) #[] #[]) ∧ BagAt W1 w1.heap.size x ∧ W1.cell? ⟨db, 0, none⟩ = some (.slice pA' st.n pc') ∧ Below w1.heap.size w1 W1 ∧ w2.heap.size + 1 < W1.heap.size) ⟨(by (repeat' refine And.intro ?_ ?_) <;> (repeat (first | (with_reducible assumption) | (simp; done) | (with_reducible refine cell_drew_of ?_) | (with_reducible refine cell_drewN_of ?_) | (with_reducible refine cell_below_of (by with_reducible assumption) ?_) | ((with_reducible refine cell_new_of ?_ ?_) <;> (first | (with_reducible rfl) | (simp; done))) | ((with_reducible refine fro_new_of ?_) <;> (first | (with_reducible rfl) | (simp; done))) | (with_reducible refine cell_alloc_of _ ?_) | (with_reducible refine cell_set_of _ (by (first | exact Nat.le_refl _ | omega | (simp; done) | (simp; omega))) ?_) | (with_reducible refine fro_drew_of ?_) | (with_reducible refine fro_drewN_of ?_) | (with_reducible refine fro_below_of (by with_reducible assumption) (by (first | exact Nat.le_refl _ | omega | (simp; done) | (simp; omega))) ?_) | (with_reducible refine fro_alloc_of _ (by (first | exact Nat.le_refl _ | omega | (simp; done) | (simp; omega))) ?_) | (with_reducible refine fro_set_of _ ?_)))), (HBG2.out.later (by repeat (first | (with_reducible exact Below.refl _ _) | (with_reducible refine Below.drew ?_) | (with_reducible refine below_drewN ?_ _) | ((with_reducible refine below_alloc ?_ ?_ _); · (first | exact Nat.le_refl _ | omega | (simp; done) | (simp; omega) | (simp at *; omega))) | ((with_reducible refine below_set ?_ ?_ _); · (first | exact Nat.le_refl _ | omega | (simp; done) | (simp; omega) | (simp at *; omega))) | ((with_reducible refine below_via (by with_reducible assumption) ?_ ?_); · (first | exact Nat.le_refl _ | omega | (simp; done) | (simp; omega) | (simp at *; omega)))))), (by (repeat' refine And.intro ?_ ?_) <;> (repeat (first | (with_reducible assumption) | (simp; done) | (with_reducible refine cell_drew_of ?_) | (with_reducible refine cell_drewN_of ?_) | (with_reducible refine cell_below_of (by with_reducible assumption) ?_) | ((with_reducible refine cell_new_of ?_ ?_) <;> (first | (with_reducible rfl) | (simp; done))) | ((with_reducible refine fro_new_of ?_) <;> (first | (with_reducible rfl) | (simp; done))) | (with_reducible refine cell_alloc_of _ ?_) | (with_reducible refine cell_set_of _ (by (first | exact Nat.le_refl _ | omega | (simp; done) | (simp; omega))) ?_) | (with_reducible refine fro_drew_of ?_) | (with_reducible refine fro_drewN_of ?_) | (with_reducible refine fro_below_of (by with_reducible assumption) (by (first | exact Nat.le_refl _ | omega | (simp; done) | (simp; omega))) ?_) | (with_reducible refine fro_alloc_of _ (by (first | exact Nat.le_refl _ | omega | (simp; done) | (simp; omega))) ?_) | (with_reducible refine fro_set_of _ ?_)))), HB2.out.trans ((show Below w2.heap.size w2 _ from (by repeat (first | (with_reducible exact Below.refl _ _) | (with_reducible refine Below.drew ?_) | (with_reducible refine below_drewN ?_ _) | ((with_reducible refine below_alloc ?_ ?_ _); · (first | exact Nat.le_refl _ | omega | (simp; done) | (simp; omega) | (simp at *; omega))) | ((with_reducible refine below_set ?_ ?_ _); · (first | exact Nat.le_refl _ | omega | (simp; done) | (simp; omega) | (simp at *; omega))) | ((with_reducible refine below_via (by with_reducible assumption) ?_ ?_); · (first | exact Nat.le_refl _ | omega | (simp; done) | (simp; omega) | (simp at *; omega)))))).mono (by omega)), by simp⟩ ?_
    clear HBG2 HB2 HQ0 HBG0 q2
    rintro W1 ⟨cf, hbg, q0, hb1, hsW⟩
    have HCF := Lib.hid cf
    have HBG := Lib.hid hbg
    have HB := Lib.hid hb1
    clear cf hbg hb1
    go_loopw [12, 13, 36] (fun v u i wr => ∃ k : Nat, k ≤ st.n ∧ i = .int .i64 k ∧ Hid (wr.ownsRow W1.heap.size 3 1 v k (numCells (fun k => (st.P k).hi) k)) ∧ Hid (wr.ownsRow W1.heap.size 3 1 u k (numCells (fun k => (st.P k).hiOf (X k)) k)) ∧ Hid (u.ownBlock = none ∨ u.ownBlock ≠ v.ownBlock) ∧ Hid (Below W1.heap.size W1 wr)) (fun _ _ i _ => st.n - (intOf i).toNat)
    case atStart => exact ⟨0, Nat.zero_le _, rfl, Lib.hid (World.ownsRow_nil _ _ _ _), Lib.hid (World.ownsRow_nil _ _ _ _), Lib.hid (.inl rfl), Lib.hid (Below.refl _ _)⟩
    case round =>
      obtain ⟨k, hk, rfl, hownV, hownU, hdis, hbw⟩ := hrel
      have hsw := hbw.out.size
      by_cases hlt : k < st.n
      · obtain ⟨b, o, rfl, hbl, c0, c1, c2, c3⟩ := (HPR.out.below ((HB.out.trans (hbw.out.mono (by omega))).mono (by omega))) k hlt
        have hk0 : (0 : Int) ≤ (k : Int) := by omega
        have hkn : (k : Int) < (st.n : Int) := by omega
        have hk4 : (k : Int) < 4 := by omega
        have hrg := Lib.hid (HST.out.pk k hlt)
        have hxk := Lib.hid (HX.out k hlt)
        have exk := HXB.out k hlt
        obtain ⟨⟨b0, b1, b2, b3⟩, _⟩ := HBG.out.same (hbw.out.block _ (by omega))
        have bx := at4' b0 b1 b2 b3 k (by omega)
        rw [exk] at bx
        have cf := cell_same (hbw.out.block _ hsW) HCF.out
        have hvV := hownV.out.lt
        have hvU := hownU.out.lt
        clear b0 b1 b2 b3 q0 exk
        go_upto_region 9 with fail
        go_region_held_law (fun w' => (w'.cell? ⟨wr.heap.size, 0, none⟩ = some (.int .i64 (st.P k).s) ∧ w'.cell? ⟨wr.heap.size, 1, none⟩ = some (.int .i64 (st.P k).w) ∧ w'.cell? ⟨wr.heap.size, 2, none⟩ = some (.int .i64 (st.P k).o) ∧ w'.cell? ⟨wr.heap.size, 3, none⟩ = some (.int .i64 (st.P k).f)) ∧ w'.cell? ⟨w2.heap.size + 1, 0, none⟩ = some (.func (.func 129) #[] #[]) ∧ w'.cell? ⟨w1.heap.size, k, none⟩ = some (.int .i64 (X k))) (first | (go_split_ands; (refine ⟨⟨?_, ?_, ?_, ?_⟩, ?_, ?_⟩ <;> (refine (hgr6.cell_far _ ?_ ?_).trans ?_; (· (first | omega | (simp only [World.size_alloc, World.size_drew]; omega) | (simp; done) | (simp; omega))); (· (intro e; have := hvV _ e.symm; (try dsimp only at this); omega)); (· (repeat (first | (with_reducible assumption) | (simp; done) | (with_reducible refine cell_drew_of ?_) | (with_reducible refine cell_drewN_of ?_) | (with_reducible refine cell_below_of (by with_reducible assumption) ?_) | ((with_reducible refine cell_new_of ?_ ?_) <;> (first | (with_reducible rfl) | (simp; done))) | ((with_reducible refine fro_new_of ?_) <;> (first | (with_reducible rfl) | (simp; done))) | (with_reducible refine cell_alloc_of _ ?_) | (with_reducible refine cell_set_of _ (by (first | exact Nat.le_refl _ | omega | (simp; done) | (simp; omega))) ?_) | (with_reducible refine fro_drew_of ?_) | (with_reducible refine fro_drewN_of ?_) | (with_reducible refine fro_below_of (by with_reducible assumption) (by (first | exact Nat.le_refl _ | omega | (simp; done) | (simp; omega))) ?_) | (with_reducible refine fro_alloc_of _ (by (first | exact Nat.le_refl _ | omega | (simp; done) | (simp; omega))) ?_) | (with_reducible refine fro_set_of _ ?_)))))); done) | (go_split_ands; (refine ⟨⟨?_, ?_, ?_, ?_⟩, ?_, ?_⟩ <;> (refine (hgr7.cell_far _ ?_ ?_).trans ?_; (· (first | omega | (simp only [World.size_alloc, World.size_drew]; omega) | (simp; done) | (simp; omega))); (· (intro e; have := hvU _ e.symm; (try dsimp only at this); omega)); (· (repeat (first | (with_reducible assumption) | (simp; done) | (with_reducible refine cell_drew_of ?_) | (with_reducible refine cell_drewN_of ?_) | (with_reducible refine cell_below_of (by with_reducible assumption) ?_) | ((with_reducible refine cell_new_of ?_ ?_) <;> (first | (with_reducible rfl) | (simp; done))) | ((with_reducible refine fro_new_of ?_) <;> (first | (with_reducible rfl) | (simp; done))) | (with_reducible refine cell_alloc_of _ ?_) | (with_reducible refine cell_set_of _ (by (first | exact Nat.le_refl _ | omega | (simp; done) | (simp; omega))) ?_) | (with_reducible refine fro_drew_of ?_) | (with_reducible refine fro_drewN_of ?_) | (with_reducible refine fro_below_of (by with_reducible assumption) (by (first | exact Nat.le_refl _ | omega | (simp; done) | (simp; omega))) ?_) | (with_reducible refine fro_alloc_of _ (by (first | exact Nat.le_refl _ | omega | (simp; done) | (simp; omega))) ?_) | (with_reducible refine fro_set_of _ ?_)))))); done) | ((go_split_ands; (repeat' refine And.intro ?_ ?_) <;> (repeat (first | (with_reducible assumption) | (simp; done) | (with_reducible refine cell_drew_of ?_) | (with_reducible refine cell_drewN_of ?_) | (with_reducible refine cell_below_of (by with_reducible assumption) ?_) | ((with_reducible refine cell_new_of ?_ ?_) <;> (first | (with_reducible rfl) | (simp; done))) | ((with_reducible refine fro_new_of ?_) <;> (first | (with_reducible rfl) | (simp; done))) | (with_reducible refine cell_alloc_of _ ?_) | (with_reducible refine cell_set_of _ (by (first | exact Nat.le_refl _ | omega | (simp; done) | (simp; omega))) ?_) | (with_reducible refine fro_drew_of ?_) | (with_reducible refine fro_drewN_of ?_) | (with_reducible refine fro_below_of (by with_reducible assumption) (by (first | exact Nat.le_refl _ | omega | (simp; done) | (simp; omega))) ?_) | (with_reducible refine fro_alloc_of _ (by (first | exact Nat.le_refl _ | omega | (simp; done) | (simp; omega))) ?_) | (with_reducible refine fro_set_of _ ?_)))))) (first | (go_at_call 99; refine (pspan_any _ _ _ _ _ hrg.out.1 hrg.out.2.2.1 hrg.out.2.2.2).mono ?_; rintro e wa ⟨he, hba⟩; have he' : e = .returned (.agg #[.int .i64 (st.P k).f, .int .i64 (st.P k).hi]) := he; subst he'; obtain ⟨hca, hfa⟩ := bcell hba; have hza := hba.size; (try simp only [World.size_drew, World.heap_drewN, World.size_alloc] at hza); clear hca hfa) | (go_at_call 129; refine (end_hi.1 (st.P k) (X k) _ hrg.out hxk.out).mono ?_; rintro e wb ⟨rfl, hbb⟩; obtain ⟨hcb, hfb⟩ := bcell hbb; have hzb := hbb.size; (try simp only [World.size_drew, World.heap_drewN, World.size_alloc] at hzb); clear hcb hfb) | (refine step_append_lies _ (by rfl) (.tmp 41) (.tmp 45) 26 (by rfl) W1.heap.size 3 i0 (.int .i64 0) 1 8 ints_under hi hz0 hz1 hz2 (by rfl) (by decide) u12 k (numCells (fun k => (st.P k).hi) k) (by rfl) (owns_later hownV.out (by repeat (first | (with_reducible exact Below.refl _ _) | (with_reducible assumption) | (with_reducible refine Below.drew ?_) | ((with_reducible refine below_alloc ?_ ?_ _); (· (first | exact Nat.le_refl _ | omega | (dsimp only; omega) | (simp only [World.size_alloc, World.size_drew, World.heap_drewN]; omega) | (simp; omega)))) | ((with_reducible refine below_set ?_ ?_ _); (· (first | exact Nat.le_refl _ | omega | (dsimp only; omega) | (simp only [World.size_alloc, World.size_drew, World.heap_drewN]; omega) | (simp; omega)))) | ((with_reducible refine below_via (by with_reducible assumption) ?_ ?_); (· (first | exact Nat.le_refl _ | omega | (dsimp only; omega) | (simp only [World.size_alloc, World.size_drew, World.heap_drewN]; omega) | (simp; omega))))))) ⟨wa.heap.size, 0, none⟩ 1 1 [.int .i64 (st.P k).hi] (by rfl) rfl (fun jj uu hjj => new_cells (w := wa) (t := 3) (cs := [.int .i64 (st.P k).hi]) jj uu hjj) (by intro u hu; simp only [List.mem_cons, List.not_mem_nil, or_false] at hu; subst hu; rfl) (by omega) (by unfold maxLen; omega) (by omega) (by (first | omega | (simp only [World.size_alloc, World.size_drew]; omega) | (simp; done) | (simp; omega))) (wa.heap.size + 1) (by simp) ?_; intro g6 cap6 w6 hown6 hgr6 hat6 hlt6; have hz6 := hgr6.size; (try simp only [World.size_alloc] at hz6); have HU6 := Lib.hid ((owns_later hownU.out (by repeat (first | (with_reducible exact Below.refl _ _) | (with_reducible assumption) | (with_reducible refine Below.drew ?_) | ((with_reducible refine below_alloc ?_ ?_ _); (· (first | exact Nat.le_refl _ | omega | (dsimp only; omega) | (simp only [World.size_alloc, World.size_drew, World.heap_drewN]; omega) | (simp; omega)))) | ((with_reducible refine below_set ?_ ?_ _); (· (first | exact Nat.le_refl _ | omega | (dsimp only; omega) | (simp only [World.size_alloc, World.size_drew, World.heap_drewN]; omega) | (simp; omega)))) | ((with_reducible refine below_via (by with_reducible assumption) ?_ ?_); (· (first | exact Nat.le_refl _ | omega | (dsimp only; omega) | (simp only [World.size_alloc, World.size_drew, World.heap_drewN]; omega) | (simp; omega))))))).kept hgr6 hdis.out)) | (refine step_append_lies _ (by rfl) (.tmp 47) (.tmp 55) 26 (by rfl) W1.heap.size 3 i0 (.int .i64 0) 1 8 ints_under hi hz0 hz1 hz2 (by rfl) (by decide) u13 k (numCells (fun k => (st.P k).hiOf (X k)) k) (by rfl) (owns_later HU6.out (by repeat (first | (with_reducible exact Below.refl _ _) | (with_reducible assumption) | (with_reducible refine Below.drew ?_) | ((with_reducible refine below_alloc ?_ ?_ _); (· (first | exact Nat.le_refl _ | omega | (dsimp only; omega) | (simp only [World.size_alloc, World.size_drew, World.heap_drewN]; omega) | (simp; omega)))) | ((with_reducible refine below_set ?_ ?_ _); (· (first | exact Nat.le_refl _ | omega | (dsimp only; omega) | (simp only [World.size_alloc, World.size_drew, World.heap_drewN]; omega) | (simp; omega)))) | ((with_reducible refine below_via (by with_reducible assumption) ?_ ?_); (· (first | exact Nat.le_refl _ | omega | (dsimp only; omega) | (simp only [World.size_alloc, World.size_drew, World.heap_drewN]; omega) | (simp; omega))))))) ⟨wb.heap.size, 0, none⟩ 1 1 [.int .i64 ((st.P k).hiOf (X k))] (by rfl) rfl (fun jj uu hjj => new_cells (w := wb) (t := 3) (cs := [.int .i64 ((st.P k).hiOf (X k))]) jj uu hjj) (by intro u hu; simp only [List.mem_cons, List.not_mem_nil, or_false] at hu; subst hu; rfl) (by omega) (by unfold maxLen; omega) (by omega) (by (first | omega | (simp only [World.size_alloc, World.size_drew]; omega) | (simp; done) | (simp; omega))) (wb.heap.size + 1) (by simp) ?_; intro g7 cap7 w7 hown7 hgr7 hat7 hlt7) | fail)
        have hne : ∀ g, u13.ownBlock = some g → g ≠ g6 := fun g hg e => by
          subst e
          have h1 := hvU g hg
          rcases hat6 with h | h
          · rcases hdis.out with h2 | h2
            · rw [hg] at h2; cases h2
            · exact h2 (hg.trans h.symm)
          · omega
        have HV7 : Hid (w7.ownsRow W1.heap.size 3 1 (.slice (some ⟨g6, 0, none⟩) (k + 1) cap6) (k + 1) (numCells (fun k => (st.P k).hi) (k + 1))) := Lib.hid (by
          rw [numCells_succ]
          exact (owns_later hown6 (by repeat (first | (with_reducible exact Below.refl _ _) | (with_reducible assumption) | (with_reducible refine Below.drew ?_) | ((with_reducible refine below_alloc ?_ ?_ _); (· (first | exact Nat.le_refl _ | omega | (dsimp only; omega) | (simp only [World.size_alloc, World.size_drew, World.heap_drewN]; omega) | (simp; omega)))) | ((with_reducible refine below_set ?_ ?_ _); (· (first | exact Nat.le_refl _ | omega | (dsimp only; omega) | (simp only [World.size_alloc, World.size_drew, World.heap_drewN]; omega) | (simp; omega)))) | ((with_reducible refine below_via (by with_reducible assumption) ?_ ?_); (· (first | exact Nat.le_refl _ | omega | (dsimp only; omega) | (simp only [World.size_alloc, World.size_drew, World.heap_drewN]; omega) | (simp; omega))))))).kept hgr7 (.inr (fun e => hne g6 e.symm rfl)))
        have HU7 : Hid (w7.ownsRow W1.heap.size 3 1 (.slice (some ⟨g7, 0, none⟩) (k + 1) cap7) (k + 1) (numCells (fun k => (st.P k).hiOf (X k)) (k + 1))) := Lib.hid (by
          rw [numCells_succ]
          exact hown7)
        have HD7 : Hid ((Value.slice (some ⟨g7, 0, none⟩) (k + 1) cap7).ownBlock = none ∨ (Value.slice (some ⟨g7, 0, none⟩) (k + 1) cap7).ownBlock ≠ (Value.slice (some ⟨g6, 0, none⟩) (k + 1) cap6).ownBlock) := Lib.hid (.inr (fun e => by
          injection e with e
          rcases hat7 with h | h
          · exact hne g7 h e
          · dsimp only at e; omega))
        have HW6 : Below W1.heap.size W1 w6 := Below.grown (hbw.out.trans (show Below W1.heap.size wr _ from (by repeat (first | (with_reducible exact Below.refl _ _) | (with_reducible assumption) | (with_reducible refine Below.drew ?_) | ((with_reducible refine below_alloc ?_ ?_ _); (· (first | exact Nat.le_refl _ | omega | (dsimp only; omega) | (simp only [World.size_alloc, World.size_drew, World.heap_drewN]; omega) | (simp; omega)))) | ((with_reducible refine below_set ?_ ?_ _); (· (first | exact Nat.le_refl _ | omega | (dsimp only; omega) | (simp only [World.size_alloc, World.size_drew, World.heap_drewN]; omega) | (simp; omega)))) | ((with_reducible refine below_via (by with_reducible assumption) ?_ ?_); (· (first | exact Nat.le_refl _ | omega | (dsimp only; omega) | (simp only [World.size_alloc, World.size_drew, World.heap_drewN]; omega) | (simp; omega)))))))) hgr6 (by (first | omega | (simp only [World.size_alloc, World.size_drew]; omega) | (simp; done) | (simp; omega))) (fun k hk => (hvV k hk).1)
        have HW7 : Hid (Below W1.heap.size W1 w7) := Lib.hid (Below.grown (HW6.trans (show Below W1.heap.size w6 _ from (by repeat (first | (with_reducible exact Below.refl _ _) | (with_reducible assumption) | (with_reducible refine Below.drew ?_) | ((with_reducible refine below_alloc ?_ ?_ _); (· (first | exact Nat.le_refl _ | omega | (dsimp only; omega) | (simp only [World.size_alloc, World.size_drew, World.heap_drewN]; omega) | (simp; omega)))) | ((with_reducible refine below_set ?_ ?_ _); (· (first | exact Nat.le_refl _ | omega | (dsimp only; omega) | (simp only [World.size_alloc, World.size_drew, World.heap_drewN]; omega) | (simp; omega)))) | ((with_reducible refine below_via (by with_reducible assumption) ?_ ?_); (· (first | exact Nat.le_refl _ | omega | (dsimp only; omega) | (simp only [World.size_alloc, World.size_drew, World.heap_drewN]; omega) | (simp; omega)))))))) hgr7 (by (first | omega | (simp only [World.size_alloc, World.size_drew]; omega) | (simp; done) | (simp; omega))) (fun k hk => (hvU k hk).1))
        clear hown6 hown7 hgr6 hgr7 hat6 hat7 hba hbb c0 c1 c2 c3 bx cf HW6 hne
        go_wp2_with fail
        go_roundw
        case rel => exact ⟨k + 1, by omega, by go_num, HV7, HU7, HD7, HW7⟩
        case measure => simp [intOf]; omega
      · obtain rfl : k = st.n := by omega
        have hge : ¬ (st.n : Int) < (st.n : Int) := by omega
        obtain ⟨A, c, rfl, hr, hcl, _⟩ := intOwn_of hownV.out
        obtain ⟨A2, c2, rfl, hr2, hcl2, _⟩ := intOwn_of hownU.out
        have HR := Lib.hid hr
        have HR2 := Lib.hid hr2
        have HBW : Hid (Below W.heap.size W wr) := Lib.hid (HB1.out.trans ((HB.out.trans (hbw.out.mono (by omega))).mono (by omega)))
        clear hr hr2
        go_wp2_with fail
        go_ret3
        exact ⟨HBW.out, .inl ⟨H0.out, A, c, A2, c2, rfl, HR.out, HR2.out, hcl, hcl2⟩⟩
  · have hnb : (st.askErr ln X != 0) = true := by simpa using h0
    have H0 := Lib.hid h0
    have hs1 := hb1.size
    simp only [World.size_alloc] at hs1
    clear h0
    go_wp2_with fail
    go_ret3
    exact ⟨(by repeat (first | (with_reducible exact Below.refl _ _) | (with_reducible refine Below.drew ?_) | (with_reducible refine below_drewN ?_ _) | ((with_reducible refine below_alloc ?_ ?_ _); · (first | exact Nat.le_refl _ | omega | (simp; done) | (simp; omega) | (simp at *; omega))) | ((with_reducible refine below_set ?_ ?_ _); · (first | exact Nat.le_refl _ | omega | (simp; done) | (simp; omega) | (simp at *; omega))) | ((with_reducible refine below_via (by with_reducible assumption) ?_ ?_); · (first | exact Nat.le_refl _ | omega | (simp; done) | (simp; omega) | (simp at *; omega))))), .inr ⟨H0.out, rfl⟩⟩
end Go.Proofs.Ytegmomappbehcaa
