/- A function's blocks by their numbers: for a law cut into a theorem for each loop. -/
import Derived.Test.YtegmomappbehcaaK3
import Derived.Test.YtegmomappbehcaaTd
import Derived.Test.YtegmomappbehcaaTe
import Derived.Deep.AppendLies
import Derived.Test.YtegmomappbehcaaWy
import Derived.Deep.RegionHeldLaw
import Derived.Test.YtegmomappbehcaaAx
import Derived.Test.YtegmomappbehcaaJa
import Derived.Test.YtegmomappbehcaaPo
import Derived.Test.YtegmomappbehcaaF
set_option linter.unusedSimpArgs false
set_option linter.unusedVariables false
namespace Go.Proofs.Ytegmomappbehcaa
open Go.RowKit Go.Shelf

/-- what Own gives: a store of one's own -/
def OwnPost (st : St) (W : World) (e : Ending) (W' : World) : Prop :=
  Below W.heap.size W W' ∧ ∃ pA pc gA gc, e = .returned (stV pA st.n pc gA st.m gc st.lots) ∧ OwnPk W' W.heap.size pA st.n st.P ∧ OwnGd W' W.heap.size gA st.m st.G ∧ st.n ≤ pc ∧ st.m ≤ gc ∧
    ∀ b c, pA = some ⟨b, 0, none⟩ → gA = some ⟨c, 0, none⟩ → 0 < st.n → 0 < st.m → c ≠ b

set_option maxRecDepth 100000 in
set_option maxHeartbeats 2000000 in
theorem own_any (st : St) (B : Nat) (pA gA : Option Addr) (pc gc : Nat) (W : World) (hs : StRow W B st pA pc gA gc) :
    Calls Try.prog 18 #[stV pA st.n pc gA st.m gc st.lots] W (OwnPost st W) := by
  have HS := Lib.hid hs
  have hB := hs.lt
  have hn := hs.n
  have hm := hs.m
  clear hs
  go_enter Try.func18, Try.ntmps18
  go_upto_region 1 with fail
  refine wp_name (fun W1 => (W1.cell? ⟨W.heap.size, 0, none⟩ = some (.slice pA st.n pc) ∧ W1.cell? ⟨W.heap.size, 1, none⟩ = some (.slice gA st.m gc) ∧ W1.cell? ⟨W.heap.size, 2, none⟩ = some (.int .i64 st.lots)) ∧ (W1.frozen? ⟨W.heap.size, 0, none⟩ = false ∧ W1.frozen? ⟨W.heap.size, 1, none⟩ = false) ∧ Below W.heap.size W W1 ∧ W.heap.size + 1 < W1.heap.size ∧ ((W1.cell? ⟨W.heap.size + 1, 0, none⟩ = some (.slice none 0 0) ∧ W1.cell? ⟨W.heap.size + 1, 1, none⟩ = some (.slice none 0 0) ∧ W1.cell? ⟨W.heap.size + 1, 2, none⟩ = some (.int .i64 0)) ∧ W1.frozen? ⟨W.heap.size + 1, 0, none⟩ = false ∧ W1.frozen? ⟨W.heap.size + 1, 1, none⟩ = false ∧ W1.frozen? ⟨W.heap.size + 1, 2, none⟩ = false)) ⟨(by (repeat' refine And.intro ?_ ?_) <;> (repeat (first | (with_reducible assumption) | (simp; done) | (with_reducible refine cell_drew_of ?_) | (with_reducible refine cell_drewN_of ?_) | (with_reducible refine cell_below_of (by with_reducible assumption) ?_) | ((with_reducible refine cell_new_of ?_ ?_) <;> (first | (with_reducible rfl) | (simp; done))) | ((with_reducible refine fro_new_of ?_) <;> (first | (with_reducible rfl) | (simp; done))) | (with_reducible refine cell_alloc_of _ ?_) | (with_reducible refine cell_set_of _ (by (first | exact Nat.le_refl _ | omega | (simp; done) | (simp; omega))) ?_) | (with_reducible refine fro_drew_of ?_) | (with_reducible refine fro_drewN_of ?_) | (with_reducible refine fro_below_of (by with_reducible assumption) (by (first | exact Nat.le_refl _ | omega | (simp; done) | (simp; omega))) ?_) | (with_reducible refine fro_alloc_of _ (by (first | exact Nat.le_refl _ | omega | (simp; done) | (simp; omega))) ?_) | (with_reducible refine fro_set_of _ ?_)))), (by (repeat' refine And.intro ?_ ?_) <;> (repeat (first | (with_reducible assumption) | (simp; done) | (with_reducible refine cell_drew_of ?_) | (with_reducible refine cell_drewN_of ?_) | (with_reducible refine cell_below_of (by with_reducible assumption) ?_) | ((with_reducible refine cell_new_of ?_ ?_) <;> (first | (with_reducible rfl) | (simp; done))) | ((with_reducible refine fro_new_of ?_) <;> (first | (with_reducible rfl) | (simp; done))) | (with_reducible refine cell_alloc_of _ ?_) | (with_reducible refine cell_set_of _ (by (first | exact Nat.le_refl _ | omega | (simp; done) | (simp; omega))) ?_) | (with_reducible refine fro_drew_of ?_) | (with_reducible refine fro_drewN_of ?_) | (with_reducible refine fro_below_of (by with_reducible assumption) (by (first | exact Nat.le_refl _ | omega | (simp; done) | (simp; omega))) ?_) | (with_reducible refine fro_alloc_of _ (by (first | exact Nat.le_refl _ | omega | (simp; done) | (simp; omega))) ?_) | (with_reducible refine fro_set_of _ ?_)))), (by repeat (first | (with_reducible exact Below.refl _ _) | (with_reducible refine Below.drew ?_) | (with_reducible refine below_drewN ?_ _) | ((with_reducible refine below_alloc ?_ ?_ _); · (first | exact Nat.le_refl _ | omega | (simp; done) | (simp; omega) | (simp at *; omega))) | ((with_reducible refine below_set ?_ ?_ _); · (first | exact Nat.le_refl _ | omega | (simp; done) | (simp; omega) | (simp at *; omega))) | ((with_reducible refine below_via (by with_reducible assumption) ?_ ?_); · (first | exact Nat.le_refl _ | omega | (simp; done) | (simp; omega) | (simp at *; omega))))), by simp, (by (repeat' refine And.intro ?_ ?_) <;> (repeat (first | (with_reducible assumption) | (simp; done) | (with_reducible refine cell_drew_of ?_) | (with_reducible refine cell_drewN_of ?_) | (with_reducible refine cell_below_of (by with_reducible assumption) ?_) | ((with_reducible refine cell_new_of ?_ ?_) <;> (first | (with_reducible rfl) | (simp; done))) | ((with_reducible refine fro_new_of ?_) <;> (first | (with_reducible rfl) | (simp; done))) | (with_reducible refine cell_alloc_of _ ?_) | (with_reducible refine cell_set_of _ (by (first | exact Nat.le_refl _ | omega | (simp; done) | (simp; omega))) ?_) | (with_reducible refine fro_drew_of ?_) | (with_reducible refine fro_drewN_of ?_) | (with_reducible refine fro_below_of (by with_reducible assumption) (by (first | exact Nat.le_refl _ | omega | (simp; done) | (simp; omega))) ?_) | (with_reducible refine fro_alloc_of _ (by (first | exact Nat.le_refl _ | omega | (simp; done) | (simp; omega))) ?_) | (with_reducible refine fro_set_of _ ?_))))⟩ ?_
  rintro W1 ⟨⟨s0, s1, s2⟩, ⟨f0, f1⟩, hb0, hsz, hst0⟩
  have HB0 := Lib.hid hb0
  have HT0 := Lib.hid (show St0 W1 (W.heap.size + 1) from hst0)
  clear hb0 hst0
  go_cut [] (fun wx => ∃ pA' pc' gA' gc', (wx.cell? ⟨W.heap.size, 0, none⟩ = some (.slice pA' st.n pc') ∧ wx.cell? ⟨W.heap.size, 1, none⟩ = some (.slice gA' st.m gc') ∧ wx.cell? ⟨W.heap.size, 2, none⟩ = some (.int .i64 st.lots)) ∧
    st.n ≤ pc' ∧ st.m ≤ gc' ∧ Hid (OwnPk wx W1.heap.size pA' st.n st.P) ∧ Hid (OwnGd wx W1.heap.size gA' st.m st.G) ∧ Hid (Below W.heap.size W wx) ∧ Hid (St0 wx (W.heap.size + 1)) ∧ W1.heap.size ≤ wx.heap.size ∧ Hid (∀ b c, pA' = some ⟨b, 0, none⟩ → gA' = some ⟨c, 0, none⟩ → 0 < st.n → 0 < st.m → c ≠ b))
  case first =>
    go_region_with (first | (go_at_call 74; refine (copy_pk pA st.n pc st.P _ (((HS.out.p.below ((show Below W.heap.size W _ from HB0.out.trans ((show Below W1.heap.size W1 _ from (by repeat (first | (with_reducible exact Below.refl _ _) | (with_reducible refine Below.drew ?_) | (with_reducible refine below_drewN ?_ _) | ((with_reducible refine below_alloc ?_ ?_ _); · (first | exact Nat.le_refl _ | omega | (simp; done) | (simp; omega) | (simp at *; omega))) | ((with_reducible refine below_set ?_ ?_ _); · (first | exact Nat.le_refl _ | omega | (simp; done) | (simp; omega) | (simp at *; omega))) | ((with_reducible refine below_via (by with_reducible assumption) ?_ ?_); · (first | exact Nat.le_refl _ | omega | (simp; done) | (simp; omega) | (simp at *; omega)))))).mono (by omega))).mono hB)).mono (by (first | exact Nat.le_refl _ | omega | (simp; done) | (simp; omega))))) (by omega)).mono ?_; rintro e wp ⟨hbp, pA', pc', rfl, hop, hpc'⟩; obtain ⟨hcp, hfp⟩ := bcell hbp; have hzp := hbp.size; (try simp only [World.size_drew, World.heap_drewN, World.size_alloc] at hzp)) | (go_at_call 75; refine (copy_gd gA st.m gc st.G _ (((HS.out.g.below ((show Below W.heap.size W _ from HB0.out.trans ((show Below W1.heap.size W1 _ from (by repeat (first | (with_reducible exact Below.refl _ _) | (with_reducible refine Below.drew ?_) | (with_reducible refine below_drewN ?_ _) | ((with_reducible refine below_alloc ?_ ?_ _); · (first | exact Nat.le_refl _ | omega | (simp; done) | (simp; omega) | (simp at *; omega))) | ((with_reducible refine below_set ?_ ?_ _); · (first | exact Nat.le_refl _ | omega | (simp; done) | (simp; omega) | (simp at *; omega))) | ((with_reducible refine below_via (by with_reducible assumption) ?_ ?_); · (first | exact Nat.le_refl _ | omega | (simp; done) | (simp; omega) | (simp at *; omega)))))).mono (by omega))).mono hB)).mono (by (first | exact Nat.le_refl _ | omega | (simp; done) | (simp; omega))))) (by omega)).mono ?_; rintro e wg ⟨hbg, gA', gc', rfl, hog, hgc'⟩; obtain ⟨hcg, hfg⟩ := bcell hbg; have hzg := hbg.size; (try simp only [World.size_drew, World.heap_drewN, World.size_alloc] at hzg)))
    all_goals
      have hbx : Below W1.heap.size W1 wg := (by repeat (first | (with_reducible exact Below.refl _ _) | (with_reducible refine Below.drew ?_) | (with_reducible refine below_drewN ?_ _) | ((with_reducible refine below_alloc ?_ ?_ _); · (first | exact Nat.le_refl _ | omega | (simp; done) | (simp; omega) | (simp at *; omega))) | ((with_reducible refine below_set ?_ ?_ _); · (first | exact Nat.le_refl _ | omega | (simp; done) | (simp; omega) | (simp at *; omega))) | ((with_reducible refine below_via (by with_reducible assumption) ?_ ?_); · (first | exact Nat.le_refl _ | omega | (simp; done) | (simp; omega) | (simp at *; omega)))))
      have hop' := Lib.hid (((hop.later hbg).set (p := ⟨W.heap.size, 0, none⟩) (by show W.heap.size < W1.heap.size; omega) (.slice pA' st.n pc')).set (p := ⟨W.heap.size, 1, none⟩) (by show W.heap.size < W1.heap.size; omega) (.slice gA' st.m gc'))
      have hog' := Lib.hid (((hog.mono hzp).set (p := ⟨W.heap.size, 0, none⟩) (by show W.heap.size < W1.heap.size; omega) (.slice pA' st.n pc')).set (p := ⟨W.heap.size, 1, none⟩) (by show W.heap.size < W1.heap.size; omega) (.slice gA' st.m gc'))
      have hst' := Lib.hid (((HT0.out.same (hbx.block _ (by omega))).same (w' := wg.setCell ⟨W.heap.size, 0, none⟩ (.slice pA' st.n pc')) (set_heap _ (by simp))).same (w' := (wg.setCell ⟨W.heap.size, 0, none⟩ (.slice pA' st.n pc')).setCell ⟨W.heap.size, 1, none⟩ (.slice gA' st.m gc')) (set_heap _ (by simp)))
      have hsx : W1.heap.size ≤ wg.heap.size := hbx.size
      have r0 := cell_below_of hbx s0
      have r1 := cell_below_of hbx s1
      have r2 := cell_below_of hbx s2
      have hbb := Lib.hid (HB0.out.trans (hbx.mono (by omega)))
      have hdis : Hid (∀ b c, pA' = some ⟨b, 0, none⟩ → gA' = some ⟨c, 0, none⟩ → 0 < st.n → 0 < st.m → c ≠ b) := Lib.hid (by
        rintro b c rfl rfl hn0 hm0
        obtain ⟨b', hA, _, c0, _⟩ := hop 0 hn0
        injection hA with hA
        injection hA with hA
        subst hA
        obtain ⟨c', hA, hl, _⟩ := hog 0 hm0
        injection hA with hA
        injection hA with hA
        subst hA
        have := World.block_lt_of_cell? wp _ c0
        dsimp only at this
        omega)
      clear hbx hop hog hcp hcg hfp hfg hbp hbg s0 s1 s2 f0 f1
      go_wp2_with fail
      go_meet
      exact ⟨pA', pc', gA', gc', ⟨by simp [go_sem, r0], by simp [go_sem, r0, r1], by simp [go_sem, r0, r1, r2]⟩, hpc', hgc', hop', hog', Lib.hid ((hbb.out.setCell (by simp) _).setCell (by simp) _), hst', by simp [World.setCell]; omega, hdis⟩
  case rest =>
    clear s0 s1 s2 f0 f1
    obtain ⟨pA', pc', gA', gc', ⟨s0, s1, s2⟩, hpc', hgc', hop, hog, hbx, hst, hsx, hdis⟩ := hcut
    have o0 := hst.out.1.1
    have o1 := hst.out.1.2.1
    have o2 := hst.out.1.2.2
    have g0 := hst.out.2.1
    have g1 := hst.out.2.2.1
    have g2 := hst.out.2.2.2
    go_wp2_with fail
    have hpk := Lib.hid ((((hop.out.set (p := ⟨W.heap.size + 1, 0, none⟩) (by show W.heap.size + 1 < W1.heap.size; omega) (.slice pA' st.n pc')).set (p := ⟨W.heap.size + 1, 1, none⟩) (by show W.heap.size + 1 < W1.heap.size; omega) (.slice gA' st.m gc')).set (p := ⟨W.heap.size + 1, 2, none⟩) (by show W.heap.size + 1 < W1.heap.size; omega) (.int .i64 st.lots)).mono (show W.heap.size ≤ W1.heap.size by omega))
    have hgd := Lib.hid ((((hog.out.set (p := ⟨W.heap.size + 1, 0, none⟩) (by show W.heap.size + 1 < W1.heap.size; omega) (.slice pA' st.n pc')).set (p := ⟨W.heap.size + 1, 1, none⟩) (by show W.heap.size + 1 < W1.heap.size; omega) (.slice gA' st.m gc')).set (p := ⟨W.heap.size + 1, 2, none⟩) (by show W.heap.size + 1 < W1.heap.size; omega) (.int .i64 st.lots)).mono (show W.heap.size ≤ W1.heap.size by omega))
    refine bodyPost_ret (v := stV pA' st.n pc' gA' st.m gc' st.lots) ?_ rfl ⟨?_, pA', pc', gA', gc', rfl, hpk.out, hgd.out, hpc', hgc', hdis.out⟩
    · exact (by simp (maxDischargeDepth := 9) [results, Try.results18, go_sem, o0, o1, o2, stV])
    · exact ((hbx.out.setCell (by simp) _).setCell (by simp) _).setCell (by simp) _

set_option maxRecDepth 100000 in
set_option maxHeartbeats 400000 in
theorem long_any (pA gA : Option Addr) (n pc m gc : Nat) (l : Int) (W : World) :
    Calls Try.prog 16 #[stV pA n pc gA m gc l] W fun e W' => e = .returned (.bool (decide (6 < n) || decide (6 < m))) ∧ Below W.heap.size W W' := by
  by_cases h1 : 6 < n
  · have h1' : (6 : Int) < (n : Int) := by omega
    have hd : Hid ((decide (6 < n) || decide (6 < m)) = true) := Lib.hid (by simp [h1])
    clear h1
    go_enter Try.func16, Try.ntmps16
    go_wp2_with fail
    go_ret
    exact ⟨by rw [hd.out]; rfl, (by repeat (first | (with_reducible exact Below.refl _ _) | (with_reducible refine Below.drew ?_) | (with_reducible refine below_drewN ?_ _) | ((with_reducible refine below_alloc ?_ ?_ _); · (first | exact Nat.le_refl _ | omega | (simp; done) | (simp; omega) | (simp at *; omega))) | ((with_reducible refine below_set ?_ ?_ _); · (first | exact Nat.le_refl _ | omega | (simp; done) | (simp; omega) | (simp at *; omega))) | ((with_reducible refine below_via (by with_reducible assumption) ?_ ?_); · (first | exact Nat.le_refl _ | omega | (simp; done) | (simp; omega) | (simp at *; omega)))))⟩
  · have h1' : ¬ (6 : Int) < (n : Int) := by omega
    by_cases h2 : 6 < m
    · have h2' : (6 : Int) < (m : Int) := by omega
      have hd : Hid ((decide (6 < n) || decide (6 < m)) = true) := Lib.hid (by simp [h2])
      clear h1 h2
      go_enter Try.func16, Try.ntmps16
      go_wp2_with fail
      go_ret
      exact ⟨by rw [hd.out]; rfl, (by repeat (first | (with_reducible exact Below.refl _ _) | (with_reducible refine Below.drew ?_) | (with_reducible refine below_drewN ?_ _) | ((with_reducible refine below_alloc ?_ ?_ _); · (first | exact Nat.le_refl _ | omega | (simp; done) | (simp; omega) | (simp at *; omega))) | ((with_reducible refine below_set ?_ ?_ _); · (first | exact Nat.le_refl _ | omega | (simp; done) | (simp; omega) | (simp at *; omega))) | ((with_reducible refine below_via (by with_reducible assumption) ?_ ?_); · (first | exact Nat.le_refl _ | omega | (simp; done) | (simp; omega) | (simp at *; omega)))))⟩
    · have h2' : ¬ (6 : Int) < (m : Int) := by omega
      have hd : Hid ((decide (6 < n) || decide (6 < m)) = false) := Lib.hid (by simp; omega)
      clear h1 h2
      go_enter Try.func16, Try.ntmps16
      go_wp2_with fail
      go_ret
      exact ⟨by rw [hd.out]; rfl, (by repeat (first | (with_reducible exact Below.refl _ _) | (with_reducible refine Below.drew ?_) | (with_reducible refine below_drewN ?_ _) | ((with_reducible refine below_alloc ?_ ?_ _); · (first | exact Nat.le_refl _ | omega | (simp; done) | (simp; omega) | (simp at *; omega))) | ((with_reducible refine below_set ?_ ?_ _); · (first | exact Nat.le_refl _ | omega | (simp; done) | (simp; omega) | (simp at *; omega))) | ((with_reducible refine below_via (by with_reducible assumption) ?_ ?_); · (first | exact Nat.le_refl _ | omega | (simp; done) | (simp; omega) | (simp at *; omega)))))⟩

theorem PkRow.later' {w w' : World} {A : Option Addr} {n : Nat} {P : Nat → Pk} (h : PkRow w w.heap.size A n P) (hb : Below w.heap.size w w') : PkRow w' w'.heap.size A n P := (h.below hb).mono hb.size
theorem GdRow.later' {w w' : World} {A : Option Addr} {n : Nat} {P : Nat → Gd} (h : GdRow w w.heap.size A n P) (hb : Below w.heap.size w w') : GdRow w' w'.heap.size A n P := (h.below hb).mono hb.size
theorem alln_pk (P : Nat → Pk) (n : Nat) : allN (fun k => pkEq (P k) (P k)) n = true := allN_iff.2 (fun k _ => by simp [pkEq])
theorem alln_gd (P : Nat → Gd) (n : Nat) : allN (fun k => gdEq (P k) (P k)) n = true := allN_iff.2 (fun k _ => by simp [gdEq])

set_option maxRecDepth 100000 in
set_option maxHeartbeats 1000000 in
/-- same of one store in two places -/
theorem same_any (st : St) (B B2 : Nat) (pA gA pA2 gA2 : Option Addr) (pc gc pc2 gc2 : Nat) (W : World) (hs : StRow W B st pA pc gA gc) (hs2 : StRow W B2 st pA2 pc2 gA2 gc2) :
    Calls Try.prog 26 #[stV pA st.n pc gA st.m gc st.lots, stV pA2 st.n pc2 gA2 st.m gc2 st.lots] W fun e W' => e = .returned (.bool true) ∧ Below W.heap.size W W' := by
  have HS := Lib.hid hs
  have HS2 := Lib.hid hs2
  have hB := hs.lt
  have hB2 := hs2.lt
  have hn := hs.n
  have hm := hs.m
  clear hs hs2
  go_enter Try.func26, Try.ntmps26
  go_wp2_with fail
  refine (alike_pk pA pA2 st.n st.n pc pc2 st.P st.P _ ((HS.out.p.mono hB).later' (by repeat (first | (with_reducible exact Below.refl _ _) | (with_reducible refine Below.drew ?_) | (with_reducible refine below_drewN ?_ _) | ((with_reducible refine below_alloc ?_ ?_ _); · (first | exact Nat.le_refl _ | omega | (simp; done) | (simp; omega) | (simp at *; omega))) | ((with_reducible refine below_set ?_ ?_ _); · (first | exact Nat.le_refl _ | omega | (simp; done) | (simp; omega) | (simp at *; omega))) | ((with_reducible refine below_via (by with_reducible assumption) ?_ ?_); · (first | exact Nat.le_refl _ | omega | (simp; done) | (simp; omega) | (simp at *; omega)))))) ((HS2.out.p.mono hB2).later' (by repeat (first | (with_reducible exact Below.refl _ _) | (with_reducible refine Below.drew ?_) | (with_reducible refine below_drewN ?_ _) | ((with_reducible refine below_alloc ?_ ?_ _); · (first | exact Nat.le_refl _ | omega | (simp; done) | (simp; omega) | (simp at *; omega))) | ((with_reducible refine below_set ?_ ?_ _); · (first | exact Nat.le_refl _ | omega | (simp; done) | (simp; omega) | (simp at *; omega))) | ((with_reducible refine below_via (by with_reducible assumption) ?_ ?_); · (first | exact Nat.le_refl _ | omega | (simp; done) | (simp; omega) | (simp at *; omega)))))) (by omega)).mono ?_
  rintro e w1 ⟨rfl, hb1⟩
  rw [alln_pk, decide_eq_true rfl]
  have HB1 := Lib.hid (show Below W.heap.size W w1 from (by repeat (first | (with_reducible exact Below.refl _ _) | (with_reducible refine Below.drew ?_) | (with_reducible refine below_drewN ?_ _) | ((with_reducible refine below_alloc ?_ ?_ _); · (first | exact Nat.le_refl _ | omega | (simp; done) | (simp; omega) | (simp at *; omega))) | ((with_reducible refine below_set ?_ ?_ _); · (first | exact Nat.le_refl _ | omega | (simp; done) | (simp; omega) | (simp at *; omega))) | ((with_reducible refine below_via (by with_reducible assumption) ?_ ?_); · (first | exact Nat.le_refl _ | omega | (simp; done) | (simp; omega) | (simp at *; omega))))))
  have hs1 := hb1.size
  simp only [World.size_alloc] at hs1
  have a1 : w1.cell? ⟨W.heap.size, 1, none⟩ = some (.slice gA st.m gc) := cell_below_of hb1 (by (repeat' refine And.intro ?_ ?_) <;> (repeat (first | (with_reducible assumption) | (simp; done) | (with_reducible refine cell_drew_of ?_) | (with_reducible refine cell_drewN_of ?_) | (with_reducible refine cell_below_of (by with_reducible assumption) ?_) | ((with_reducible refine cell_new_of ?_ ?_) <;> (first | (with_reducible rfl) | (simp; done))) | ((with_reducible refine fro_new_of ?_) <;> (first | (with_reducible rfl) | (simp; done))) | (with_reducible refine cell_alloc_of _ ?_) | (with_reducible refine cell_set_of _ (by (first | exact Nat.le_refl _ | omega | (simp; done) | (simp; omega))) ?_) | (with_reducible refine fro_drew_of ?_) | (with_reducible refine fro_drewN_of ?_) | (with_reducible refine fro_below_of (by with_reducible assumption) (by (first | exact Nat.le_refl _ | omega | (simp; done) | (simp; omega))) ?_) | (with_reducible refine fro_alloc_of _ (by (first | exact Nat.le_refl _ | omega | (simp; done) | (simp; omega))) ?_) | (with_reducible refine fro_set_of _ ?_))))
  have b1 : w1.cell? ⟨W.heap.size + 1, 1, none⟩ = some (.slice gA2 st.m gc2) := cell_below_of hb1 (by (repeat' refine And.intro ?_ ?_) <;> (repeat (first | (with_reducible assumption) | (simp; done) | (with_reducible refine cell_drew_of ?_) | (with_reducible refine cell_drewN_of ?_) | (with_reducible refine cell_below_of (by with_reducible assumption) ?_) | ((with_reducible refine cell_new_of ?_ ?_) <;> (first | (with_reducible rfl) | (simp; done))) | ((with_reducible refine fro_new_of ?_) <;> (first | (with_reducible rfl) | (simp; done))) | (with_reducible refine cell_alloc_of _ ?_) | (with_reducible refine cell_set_of _ (by (first | exact Nat.le_refl _ | omega | (simp; done) | (simp; omega))) ?_) | (with_reducible refine fro_drew_of ?_) | (with_reducible refine fro_drewN_of ?_) | (with_reducible refine fro_below_of (by with_reducible assumption) (by (first | exact Nat.le_refl _ | omega | (simp; done) | (simp; omega))) ?_) | (with_reducible refine fro_alloc_of _ (by (first | exact Nat.le_refl _ | omega | (simp; done) | (simp; omega))) ?_) | (with_reducible refine fro_set_of _ ?_))))
  have a2 : w1.cell? ⟨W.heap.size, 2, none⟩ = some (.int .i64 st.lots) := cell_below_of hb1 (by (repeat' refine And.intro ?_ ?_) <;> (repeat (first | (with_reducible assumption) | (simp; done) | (with_reducible refine cell_drew_of ?_) | (with_reducible refine cell_drewN_of ?_) | (with_reducible refine cell_below_of (by with_reducible assumption) ?_) | ((with_reducible refine cell_new_of ?_ ?_) <;> (first | (with_reducible rfl) | (simp; done))) | ((with_reducible refine fro_new_of ?_) <;> (first | (with_reducible rfl) | (simp; done))) | (with_reducible refine cell_alloc_of _ ?_) | (with_reducible refine cell_set_of _ (by (first | exact Nat.le_refl _ | omega | (simp; done) | (simp; omega))) ?_) | (with_reducible refine fro_drew_of ?_) | (with_reducible refine fro_drewN_of ?_) | (with_reducible refine fro_below_of (by with_reducible assumption) (by (first | exact Nat.le_refl _ | omega | (simp; done) | (simp; omega))) ?_) | (with_reducible refine fro_alloc_of _ (by (first | exact Nat.le_refl _ | omega | (simp; done) | (simp; omega))) ?_) | (with_reducible refine fro_set_of _ ?_))))
  have b2 : w1.cell? ⟨W.heap.size + 1, 2, none⟩ = some (.int .i64 st.lots) := cell_below_of hb1 (by (repeat' refine And.intro ?_ ?_) <;> (repeat (first | (with_reducible assumption) | (simp; done) | (with_reducible refine cell_drew_of ?_) | (with_reducible refine cell_drewN_of ?_) | (with_reducible refine cell_below_of (by with_reducible assumption) ?_) | ((with_reducible refine cell_new_of ?_ ?_) <;> (first | (with_reducible rfl) | (simp; done))) | ((with_reducible refine fro_new_of ?_) <;> (first | (with_reducible rfl) | (simp; done))) | (with_reducible refine cell_alloc_of _ ?_) | (with_reducible refine cell_set_of _ (by (first | exact Nat.le_refl _ | omega | (simp; done) | (simp; omega))) ?_) | (with_reducible refine fro_drew_of ?_) | (with_reducible refine fro_drewN_of ?_) | (with_reducible refine fro_below_of (by with_reducible assumption) (by (first | exact Nat.le_refl _ | omega | (simp; done) | (simp; omega))) ?_) | (with_reducible refine fro_alloc_of _ (by (first | exact Nat.le_refl _ | omega | (simp; done) | (simp; omega))) ?_) | (with_reducible refine fro_set_of _ ?_))))
  clear hb1
  go_wp2_with fail
  refine (alike_gd gA gA2 st.m st.m gc gc2 st.G st.G _ ((HS.out.g.mono hB).later' HB1.out) ((HS2.out.g.mono hB2).later' HB1.out) (by omega)).mono ?_
  rintro e w2 ⟨rfl, hb2⟩
  rw [alln_gd, decide_eq_true rfl]
  have HB2 := Lib.hid (HB1.out.trans (hb2.mono (by omega)))
  have a2' := cell_below_of hb2 a2
  have b2' := cell_below_of hb2 b2
  clear hb2 a1 b1 a2 b2
  go_wp2_with fail
  go_ret
  exact ⟨rfl, HB2.out⟩
end Go.Proofs.Ytegmomappbehcaa

set_option linter.unusedSimpArgs false
set_option linter.unusedVariables false
namespace Go.Proofs.Ytegmomappbehcaa
open Go.RowKit Go.Shelf

theorem owns_keep {w w' : World} {base : Nat} {e : TypeId} {size : Nat} {v : Value} {n : Nat} {xs : List Value} (h : w.ownsRow base e size v n xs) (hk : ∀ g, base ≤ g → w'.heap[g]? = w.heap[g]?) : w'.ownsRow base e size v n xs :=
  ⟨h.1, h.2.imp id (fun ⟨g, cap, cur, a, b, c, d⟩ => ⟨g, cap, cur, a, b, (hk g b).trans c, d⟩)⟩
theorem OwnPk.of_ownsT {T : TypeId} {w : World} {lo n : Nat} {v : Value} {P : Nat → Pk} (h : w.ownsRow lo T 4 v n (numCells (pkCell P) (n * 4))) : ∃ A c, v = .slice A n c ∧ OwnPk w lo A n P ∧ n ≤ c := by
  rcases h.2 with ⟨rfl, h0⟩ | ⟨g, cap, cur, rfl, hb, hg, hc, _⟩
  · refine ⟨none, 0, by rw [h0], fun k hk => by omega, by omega⟩
  · refine ⟨some ⟨g, 0, none⟩, cap, rfl, fun k hk => ?_, hc⟩
    have hcell : ∀ j, j < n * 4 → w.cell? ⟨g, j, none⟩ = some (.int .i64 (pkCell P j)) := fun j hj => by
      have h1 := h.cells (g := g) rfl j _ (numCells_get (pkCell P) hj)
      rwa [show ((⟨g, 0, none⟩ : Addr).add j) = ⟨g, j, none⟩ by by_cases hj : j = 0 <;> simp [Addr.add, hj]] at h1
    have e0 : pkCell P (k * 4 + 0) = (P k).s := by unfold pkCell; rw [show (k * 4 + 0) % 4 = 0 by omega, show (k * 4 + 0) / 4 = k by omega]; rfl
    have e1 : pkCell P (k * 4 + 1) = (P k).w := by unfold pkCell; rw [show (k * 4 + 1) % 4 = 1 by omega, show (k * 4 + 1) / 4 = k by omega]; rfl
    have e2 : pkCell P (k * 4 + 2) = (P k).o := by unfold pkCell; rw [show (k * 4 + 2) % 4 = 2 by omega, show (k * 4 + 2) / 4 = k by omega]; rfl
    have e3 : pkCell P (k * 4 + 3) = (P k).f := by unfold pkCell; rw [show (k * 4 + 3) % 4 = 3 by omega, show (k * 4 + 3) / 4 = k by omega]; rfl
    refine ⟨g, rfl, hb, ?_, ?_, ?_, ?_, fun i => frozen_of_row _ _ _ _ _ hg⟩
    · rw [← e0]; exact hcell _ (by omega)
    · rw [← e1]; exact hcell _ (by omega)
    · rw [← e2]; exact hcell _ (by omega)
    · rw [← e3]; exact hcell _ (by omega)
theorem OwnGd.of_ownsT {T : TypeId} {w : World} {lo n : Nat} {v : Value} {P : Nat → Gd} (h : w.ownsRow lo T 2 v n (numCells (gdCell P) (n * 2))) : ∃ A c, v = .slice A n c ∧ OwnGd w lo A n P ∧ n ≤ c := by
  rcases h.2 with ⟨rfl, h0⟩ | ⟨g, cap, cur, rfl, hb, hg, hc, _⟩
  · refine ⟨none, 0, by rw [h0], fun k hk => by omega, by omega⟩
  · refine ⟨some ⟨g, 0, none⟩, cap, rfl, fun k hk => ?_, hc⟩
    have hcell : ∀ j, j < n * 2 → w.cell? ⟨g, j, none⟩ = some (.int .i64 (gdCell P j)) := fun j hj => by
      have h1 := h.cells (g := g) rfl j _ (numCells_get (gdCell P) hj)
      rwa [show ((⟨g, 0, none⟩ : Addr).add j) = ⟨g, j, none⟩ by by_cases hj : j = 0 <;> simp [Addr.add, hj]] at h1
    have e0 : gdCell P (k * 2 + 0) = (P k).foul := by unfold gdCell; rw [show (k * 2 + 0) % 2 = 0 by omega, show (k * 2 + 0) / 2 = k by omega]; rfl
    have e1 : gdCell P (k * 2 + 1) = (P k).price := by unfold gdCell; rw [show (k * 2 + 1) % 2 = 1 by omega, show (k * 2 + 1) / 2 = k by omega]; rfl
    refine ⟨g, rfl, hb, ?_, ?_, fun i => frozen_of_row _ _ _ _ _ hg⟩
    · rw [← e0]; exact hcell _ (by omega)
    · rw [← e1]; exact hcell _ (by omega)
theorem pkCells_succ (P : Nat → Pk) (n : Nat) : numCells (pkCell P) ((n + 1) * 4) = numCells (pkCell P) (n * 4) ++ [.int .i64 (P n).s, .int .i64 (P n).w, .int .i64 (P n).o, .int .i64 (P n).f] := by
  have e0 : pkCell P (n * 4) = (P n).s := by unfold pkCell; rw [show n * 4 % 4 = 0 by omega, show n * 4 / 4 = n by omega]; rfl
  have e1 : pkCell P (n * 4 + 1) = (P n).w := by unfold pkCell; rw [show (n * 4 + 1) % 4 = 1 by omega, show (n * 4 + 1) / 4 = n by omega]; rfl
  have e2 : pkCell P (n * 4 + 1 + 1) = (P n).o := by unfold pkCell; rw [show (n * 4 + 1 + 1) % 4 = 2 by omega, show (n * 4 + 1 + 1) / 4 = n by omega]; rfl
  have e3 : pkCell P (n * 4 + 1 + 1 + 1) = (P n).f := by unfold pkCell; rw [show (n * 4 + 1 + 1 + 1) % 4 = 3 by omega, show (n * 4 + 1 + 1 + 1) / 4 = n by omega]; rfl
  unfold numCells
  rw [show (n + 1) * 4 = n * 4 + 1 + 1 + 1 + 1 by omega, List.range_succ, List.range_succ, List.range_succ, List.range_succ]
  simp [e0, e1, e2, e3]
theorem gdCells_succ (P : Nat → Gd) (n : Nat) : numCells (gdCell P) ((n + 1) * 2) = numCells (gdCell P) (n * 2) ++ [.int .i64 (P n).foul, .int .i64 (P n).price] := by
  have e0 : gdCell P (n * 2) = (P n).foul := by unfold gdCell; rw [show n * 2 % 2 = 0 by omega, show n * 2 / 2 = n by omega]; rfl
  have e1 : gdCell P (n * 2 + 1) = (P n).price := by unfold gdCell; rw [show (n * 2 + 1) % 2 = 1 by omega, show (n * 2 + 1) / 2 = n by omega]; rfl
  unfold numCells
  rw [show (n + 1) * 2 = n * 2 + 1 + 1 by omega, List.range_succ, List.range_succ]
  simp [e0, e1]
theorem infoRPk : (Try.prog.info? 116).map (fun i => (i.zero, i.size, i.bytes)) = some (some (.agg #[.int .i64 0, .int .i64 0, .int .i64 0, .int .i64 0]), 4, 32) := by kernel_rfl
theorem infoRGd : (Try.prog.info? 117).map (fun i => (i.zero, i.size, i.bytes)) = some (some (.agg #[.int .i64 0, .int .i64 0]), 2, 16) := by kernel_rfl
theorem rpks_under : Try.prog.underlying 31 = some (.slice 116) := by kernel_rfl
theorem rgds_under : Try.prog.underlying 32 = some (.slice 117) := by kernel_rfl

/-- a store under way in memory -/
def Out3 (w : World) (b : Nat) (v g : Value) (l : Int) : Prop := (w.cell? ⟨b, 0, none⟩ = some v ∧ w.cell? ⟨b, 1, none⟩ = some g ∧ w.cell? ⟨b, 2, none⟩ = some (.int .i64 l)) ∧ w.frozen? ⟨b, 0, none⟩ = false ∧ w.frozen? ⟨b, 1, none⟩ = false
theorem Out3.same {w w' : World} {b : Nat} {v g : Value} {l : Int} (h : Out3 w b v g l) (hs : w'.heap[b]? = w.heap[b]?) : Out3 w' b v g l :=
  ⟨⟨cell_same hs h.1.1, cell_same hs h.1.2.1, cell_same hs h.1.2.2⟩, fro_same hs h.2.1, fro_same hs h.2.2⟩
theorem Out3.set0 {w : World} {b : Nat} {v g : Value} {l : Int} (h : Out3 w b v g l) (u : Value) : Out3 (w.setCell ⟨b, 0, none⟩ u) b u g l := by
  obtain ⟨⟨h0, h1, h2⟩, f0, f1⟩ := h
  exact ⟨⟨by simp [go_sem, h0], by simp [go_sem, h1], by simp [go_sem, h2]⟩, fro_set_of _ f0, fro_set_of _ f1⟩
theorem Out3.set1 {w : World} {b : Nat} {v g : Value} {l : Int} (h : Out3 w b v g l) (u : Value) : Out3 (w.setCell ⟨b, 1, none⟩ u) b v u l := by
  obtain ⟨⟨h0, h1, h2⟩, f0, f1⟩ := h
  exact ⟨⟨by simp [go_sem, h0], by simp [go_sem, h1], by simp [go_sem, h2]⟩, fro_set_of _ f0, fro_set_of _ f1⟩
theorem OwnPk.keep {w w' : World} {lo n : Nat} {A : Option Addr} {P : Nat → Pk} (h : OwnPk w lo A n P) (hk : ∀ b, lo ≤ b → b < w.heap.size → w'.heap[b]? = w.heap[b]?) : OwnPk w' lo A n P := fun k hk' => by
  obtain ⟨b, hA, hl, c0, c1, c2, c3, hf⟩ := h k hk'
  have hs := hk b hl (World.block_lt_of_cell? w _ c0)
  exact ⟨b, hA, hl, cell_same hs c0, cell_same hs c1, cell_same hs c2, cell_same hs c3, fun i => fro_same hs (hf i)⟩
theorem OwnGd.keep {w w' : World} {lo n : Nat} {A : Option Addr} {P : Nat → Gd} (h : OwnGd w lo A n P) (hk : ∀ b, lo ≤ b → b < w.heap.size → w'.heap[b]? = w.heap[b]?) : OwnGd w' lo A n P := fun k hk' => by
  obtain ⟨b, hA, hl, c0, c1, hf⟩ := h k hk'
  have hs := hk b hl (World.block_lt_of_cell? w _ c0)
  exact ⟨b, hA, hl, cell_same hs c0, cell_same hs c1, fun i => fro_same hs (hf i)⟩
theorem OwnInt.keep {w w' : World} {lo n : Nat} {A : Option Addr} {P : Nat → Int} (h : OwnInt w lo A n P) (hk : ∀ b, lo ≤ b → b < w.heap.size → w'.heap[b]? = w.heap[b]?) : OwnInt w' lo A n P := fun k hk' => by
  obtain ⟨b, hA, hl, c0, hf⟩ := h k hk'
  have hs := hk b hl (World.block_lt_of_cell? w _ c0)
  exact ⟨b, hA, hl, cell_same hs c0, fun i => fro_same hs (hf i)⟩
/-- what theirs and ours give -/
def CopyPost (st : St) (W : World) (e : Ending) (W' : World) : Prop :=
  Below W.heap.size W W' ∧ ∃ pA pc gA gc, e = .returned (stV pA st.n pc gA st.m gc st.lots) ∧ OwnPk W' W.heap.size pA st.n st.P ∧ OwnGd W' W.heap.size gA st.m st.G ∧ st.n ≤ pc ∧ st.m ≤ gc

set_option maxRecDepth 100000 in
set_option maxHeartbeats 4000000 in
theorem theirs_any (st : St) (B : Nat) (pA gA : Option Addr) (pc gc : Nat) (W : World) (hs : StRow W B st pA pc gA gc) :
    Calls Try.prog 20 #[stV pA st.n pc gA st.m gc st.lots] W (CopyPost st W) := by
  have HS := Lib.hid hs
  have hB := hs.lt
  have hn := hs.n
  have hm := hs.m
  clear hs
  obtain ⟨i0, hi, hz0, hz1, hz2⟩ := info_parts infoRPk
  obtain ⟨j0, ji, jz0, jz1, jz2⟩ := info_parts infoRGd
  go_enter Try.func20, Try.ntmps20
  go_wp2_with fail
  refine wp_world (fun W1 => W1.cell? ⟨W.heap.size, 1, none⟩ = some (.slice gA st.m gc) ∧ ((W1.cell? ⟨W.heap.size + 1, 0, none⟩ = some (.slice none 0 0) ∧ W1.cell? ⟨W.heap.size + 1, 1, none⟩ = some (.slice none 0 0) ∧ W1.cell? ⟨W.heap.size + 1, 2, none⟩ = some (.int .i64 0)) ∧ W1.frozen? ⟨W.heap.size + 1, 0, none⟩ = false ∧ W1.frozen? ⟨W.heap.size + 1, 1, none⟩ = false ∧ W1.frozen? ⟨W.heap.size + 1, 2, none⟩ = false) ∧
    ((W1.cell? ⟨W.heap.size + 1 + 1, 0, none⟩ = some (.slice none 0 0) ∧ W1.cell? ⟨W.heap.size + 1 + 1, 1, none⟩ = some (.slice none 0 0) ∧ W1.cell? ⟨W.heap.size + 1 + 1, 2, none⟩ = some (.int .i64 st.lots)) ∧ W1.frozen? ⟨W.heap.size + 1 + 1, 0, none⟩ = false ∧ W1.frozen? ⟨W.heap.size + 1 + 1, 1, none⟩ = false) ∧ Below W.heap.size W W1 ∧ W.heap.size + 1 + 1 < W1.heap.size) ⟨(by (repeat' refine And.intro ?_ ?_) <;> (repeat (first | (with_reducible assumption) | (simp; done) | (with_reducible refine cell_drew_of ?_) | (with_reducible refine cell_drewN_of ?_) | (with_reducible refine cell_below_of (by with_reducible assumption) ?_) | ((with_reducible refine cell_new_of ?_ ?_) <;> (first | (with_reducible rfl) | (simp; done))) | ((with_reducible refine fro_new_of ?_) <;> (first | (with_reducible rfl) | (simp; done))) | (with_reducible refine cell_alloc_of _ ?_) | (with_reducible refine cell_set_of _ (by (first | exact Nat.le_refl _ | omega | (simp; done) | (simp; omega))) ?_) | (with_reducible refine fro_drew_of ?_) | (with_reducible refine fro_drewN_of ?_) | (with_reducible refine fro_below_of (by with_reducible assumption) (by (first | exact Nat.le_refl _ | omega | (simp; done) | (simp; omega))) ?_) | (with_reducible refine fro_alloc_of _ (by (first | exact Nat.le_refl _ | omega | (simp; done) | (simp; omega))) ?_) | (with_reducible refine fro_set_of _ ?_)))), (by (repeat' refine And.intro ?_ ?_) <;> (repeat (first | (with_reducible assumption) | (simp; done) | (with_reducible refine cell_drew_of ?_) | (with_reducible refine cell_drewN_of ?_) | (with_reducible refine cell_below_of (by with_reducible assumption) ?_) | ((with_reducible refine cell_new_of ?_ ?_) <;> (first | (with_reducible rfl) | (simp; done))) | ((with_reducible refine fro_new_of ?_) <;> (first | (with_reducible rfl) | (simp; done))) | (with_reducible refine cell_alloc_of _ ?_) | (with_reducible refine cell_set_of _ (by (first | exact Nat.le_refl _ | omega | (simp; done) | (simp; omega))) ?_) | (with_reducible refine fro_drew_of ?_) | (with_reducible refine fro_drewN_of ?_) | (with_reducible refine fro_below_of (by with_reducible assumption) (by (first | exact Nat.le_refl _ | omega | (simp; done) | (simp; omega))) ?_) | (with_reducible refine fro_alloc_of _ (by (first | exact Nat.le_refl _ | omega | (simp; done) | (simp; omega))) ?_) | (with_reducible refine fro_set_of _ ?_)))), (by (repeat' refine And.intro ?_ ?_) <;> (repeat (first | (with_reducible assumption) | (simp; done) | (with_reducible refine cell_drew_of ?_) | (with_reducible refine cell_drewN_of ?_) | (with_reducible refine cell_below_of (by with_reducible assumption) ?_) | ((with_reducible refine cell_new_of ?_ ?_) <;> (first | (with_reducible rfl) | (simp; done))) | ((with_reducible refine fro_new_of ?_) <;> (first | (with_reducible rfl) | (simp; done))) | (with_reducible refine cell_alloc_of _ ?_) | (with_reducible refine cell_set_of _ (by (first | exact Nat.le_refl _ | omega | (simp; done) | (simp; omega))) ?_) | (with_reducible refine fro_drew_of ?_) | (with_reducible refine fro_drewN_of ?_) | (with_reducible refine fro_below_of (by with_reducible assumption) (by (first | exact Nat.le_refl _ | omega | (simp; done) | (simp; omega))) ?_) | (with_reducible refine fro_alloc_of _ (by (first | exact Nat.le_refl _ | omega | (simp; done) | (simp; omega))) ?_) | (with_reducible refine fro_set_of _ ?_)))), (by repeat (first | (with_reducible exact Below.refl _ _) | (with_reducible refine Below.drew ?_) | (with_reducible refine below_drewN ?_ _) | ((with_reducible refine below_alloc ?_ ?_ _); · (first | exact Nat.le_refl _ | omega | (simp; done) | (simp; omega) | (simp at *; omega))) | ((with_reducible refine below_set ?_ ?_ _); · (first | exact Nat.le_refl _ | omega | (simp; done) | (simp; omega) | (simp at *; omega))) | ((with_reducible refine below_via (by with_reducible assumption) ?_ ?_); · (first | exact Nat.le_refl _ | omega | (simp; done) | (simp; omega) | (simp at *; omega))))), by simp⟩ ?_
  rintro W1 ⟨a1, hst0, hout, hb1, hs1⟩
  have HT0 := Lib.hid (show St0 W1 (W.heap.size + 1) from hst0)
  have HO1 := Lib.hid (show Out3 W1 (W.heap.size + 1 + 1) (.slice none 0 0) (.slice none 0 0) st.lots from hout)
  have HB1 := Lib.hid hb1
  have HA1 := Lib.hid a1
  clear hst0 hout hb1 a1
  go_loopw [14] (fun i wr => ∃ (k : Nat) (v : Value), k ≤ st.n ∧ i = .int .i64 k ∧ Hid (Out3 wr (W.heap.size + 1 + 1) v (.slice none 0 0) st.lots) ∧ Hid (wr.ownsRow W1.heap.size 116 4 v k (numCells (pkCell st.P) (k * 4))) ∧ Hid (W1.grownBy wr (some (W.heap.size + 1 + 1)))) (fun i _ => st.n - (intOf i).toNat)
  case atStart => exact ⟨0, _, Nat.zero_le _, rfl, HO1, Lib.hid (World.ownsRow_nil _ _ _ _), Lib.hid (World.grownBy.refl _ _)⟩
  case round =>
    obtain ⟨k, v, hk, rfl, ho, hown, hg⟩ := hrel
    have hsz := hg.out.size
    have HBW := Lib.hid (HB1.out.trans (gb_below hg.out (by omega) (by omega)))
    by_cases hlt : k < st.n
    · obtain ⟨b, o, rfl, hbl, c0, c1, c2, c3⟩ := (HS.out.p.below (HBW.out.mono hB)) k hlt
      have hk0 : (0 : Int) ≤ (k : Int) := by omega
      have hkn : (k : Int) < (st.n : Int) := by omega
      obtain ⟨⟨o0, o1, o2⟩, fo0, fo1⟩ := ho.out
      have hv1 := hown.out.lt
      generalize hpk : st.P k = x at c0 c1 c2 c3
      have HPK := Lib.hid hpk
      clear hpk
      go_wp2_with (at_builtin; refine wpList_append_own _ rfl (.tmp 19) (.tmp 21) 31 rfl W1.heap.size 116 i0 (.agg #[.int .i64 0, .int .i64 0, .int .i64 0, .int .i64 0]) 4 32 rpks_under hi hz0 hz1 hz2 rfl (by decide) v k (numCells (pkCell st.P) (k * 4)) rfl ((hown.out.alloc _).alloc _) ⟨wr.heap.size + 1, 0, none⟩ 1 1 [.int .i64 x.s, .int .i64 x.w, .int .i64 x.o, .int .i64 x.f] rfl rfl ?c1 ?c2 ?c3 ?c4 ?c5 ?_)
      case c1 =>
        intro j u hj
        have := new_cells (w := wr.alloc (.cells #[.int .i64 x.s, .int .i64 x.w, .int .i64 x.o, .int .i64 x.f] 75)) (t := 116) (cs := [.int .i64 x.s, .int .i64 x.w, .int .i64 x.o, .int .i64 x.f]) j u hj
        simpa using this
      case c2 => intro u hu; simp only [List.mem_cons, List.not_mem_nil, or_false] at hu; rcases hu with rfl | rfl | rfl | rfl <;> rfl
      case c3 => unfold maxLen; omega
      case c4 => omega
      case c5 => simp; omega
      intro v' w6 hown' hgr _
      obtain ⟨A', n', c', hv'⟩ : ∃ A' n' c', v' = .slice A' n' c' := by
        rcases hown'.2 with ⟨h, _⟩ | ⟨_, _, _, h, _⟩
        · exact ⟨_, _, _, h⟩
        · exact ⟨_, _, _, h⟩
      subst hv'
      have hs6 := hgr.size
      simp only [World.size_alloc] at hs6
      have hold : ∀ i, i < W1.heap.size → w6.heap[i]? = wr.heap[i]? := fun i hi => (hgr.block i (by simp; omega) (fun e => by have := (hv1 i e.symm).1; omega)).trans ((Below.heap_alloc _ _ _ (by simp; omega)).trans (Below.heap_alloc _ _ _ (by omega)))
      have ho6 := ho.out.same (hold _ hs1)
      have HO7 := Lib.hid (ho6.set0 (.slice A' n' c'))
      have HOWN7 : Hid ((w6.setCell ⟨W.heap.size + 1 + 1, 0, none⟩ (.slice A' n' c')).ownsRow W1.heap.size 116 4 (.slice A' n' c') (k + 1) (numCells (pkCell st.P) ((k + 1) * 4))) := Lib.hid (by
        rw [pkCells_succ, HPK.out]
        exact owns_keep hown' (fun g hg => set_heap _ (by simp; omega)))
      have HG7 : Hid (W1.grownBy (w6.setCell ⟨W.heap.size + 1 + 1, 0, none⟩ (.slice A' n' c')) (some (W.heap.size + 1 + 1))) := Lib.hid (gb_trans ⟨hgr.os.trans hg.out.os, hgr.tape.trans hg.out.tape, hgr.output.trans hg.out.output, by omega, fun i hi hne => (hold i hi).trans (hg.out.block i hi hne)⟩ (gb_set _ _ _ _))
      obtain ⟨⟨p0, p1, p2⟩, fp0, fp1⟩ := ho6
      clear hown' hgr hold o0 o1 o2 fo0 fo1 c0 c1 c2 c3
      go_wp2_with fail
      go_roundw
      case rel => exact ⟨k + 1, _, by omega, by go_num, HO7, HOWN7, HG7⟩
      case measure => simp [intOf]; omega
    · have hk' : k = st.n := by omega
      have hge : ¬ (k : Int) < (st.n : Int) := by omega
      obtain ⟨A, c, hv, hop, hcl⟩ := OwnPk.of_ownsT (P := st.P) (show wr.ownsRow W1.heap.size 116 4 v st.n (numCells (pkCell st.P) (st.n * 4)) by rw [hk'] at hown; exact hown.out)
      subst hv
      have HOP := Lib.hid hop
      have a1 := cell_same (hg.out.block W.heap.size (by omega) (by intro e; injection e with e; omega)) HA1.out
      have HT4 := Lib.hid (HT0.out.same (hg.out.block _ (by omega) (by intro e; injection e with e; omega)))
      clear hk' hop hown
      obtain ⟨wo, rfl⟩ : ∃ wo, wo = wr := ⟨_, rfl⟩
      go_wp2_with fail
      go_loopw [28] (fun i wr => ∃ (k : Nat) (v : Value), k ≤ st.m ∧ i = .int .i64 k ∧ Hid (Out3 wr (W.heap.size + 1 + 1) (.slice A st.n c) v st.lots) ∧ Hid (wr.ownsRow wo.heap.size 117 2 v k (numCells (gdCell st.G) (k * 2))) ∧ Hid (wo.grownBy wr (some (W.heap.size + 1 + 1)))) (fun i _ => st.m - (intOf i).toNat)
      case atStart => exact ⟨0, _, Nat.zero_le _, rfl, ho, Lib.hid (World.ownsRow_nil _ _ _ _), Lib.hid (World.grownBy.refl _ _)⟩
      case round =>
        clear a1 ho
        obtain ⟨k2, v, hk2, rfl, ho, hown, hg2⟩ := hrel
        have hsz2 := hg2.out.size
        have HBW2 := Lib.hid (HBW.out.trans (gb_below hg2.out (by omega) (by omega)))
        by_cases hlt2 : k2 < st.m
        · obtain ⟨b, o, rfl, hbl, c0, c1⟩ := (HS.out.g.below (HBW2.out.mono hB)) k2 hlt2
          have hk0 : (0 : Int) ≤ (k2 : Int) := by omega
          have hkn : (k2 : Int) < (st.m : Int) := by omega
          obtain ⟨⟨o0, o1, o2⟩, fo0, fo1⟩ := ho.out
          have hv1 := hown.out.lt
          generalize hgd : st.G k2 = x at c0 c1
          have HGD := Lib.hid hgd
          clear hgd
          go_wp2_with (at_builtin; refine wpList_append_own _ rfl (.tmp 33) (.tmp 35) 32 rfl wo.heap.size 117 j0 (.agg #[.int .i64 0, .int .i64 0]) 2 16 rgds_under ji jz0 jz1 jz2 rfl (by decide) v k2 (numCells (gdCell st.G) (k2 * 2)) rfl ((hown.out.alloc _).alloc _) ⟨wr.heap.size + 1, 0, none⟩ 1 1 [.int .i64 x.foul, .int .i64 x.price] rfl rfl ?c1 ?c2 ?c3 ?c4 ?c5 ?_)
          case c1 =>
            intro j u hj
            have := new_cells (w := wr.alloc (.cells #[.int .i64 x.foul, .int .i64 x.price] 82)) (t := 117) (cs := [.int .i64 x.foul, .int .i64 x.price]) j u hj
            simpa using this
          case c2 => intro u hu; simp only [List.mem_cons, List.not_mem_nil, or_false] at hu; rcases hu with rfl | rfl <;> rfl
          case c3 => unfold maxLen; omega
          case c4 => omega
          case c5 => simp; omega
          intro v' w6 hown' hgr _
          obtain ⟨A', n', c', hv'⟩ : ∃ A' n' c', v' = .slice A' n' c' := by
            rcases hown'.2 with ⟨h, _⟩ | ⟨_, _, _, h, _⟩
            · exact ⟨_, _, _, h⟩
            · exact ⟨_, _, _, h⟩
          subst hv'
          have hs6 := hgr.size
          simp only [World.size_alloc] at hs6
          have hold : ∀ i, i < wo.heap.size → w6.heap[i]? = wr.heap[i]? := fun i hi => (hgr.block i (by simp; omega) (fun e => by have := (hv1 i e.symm).1; omega)).trans ((Below.heap_alloc _ _ _ (by simp; omega)).trans (Below.heap_alloc _ _ _ (by omega)))
          have ho6 := ho.out.same (hold _ (by omega))
          have HO7 := Lib.hid (ho6.set1 (.slice A' n' c'))
          have HOWN7 : Hid ((w6.setCell ⟨W.heap.size + 1 + 1, 1, none⟩ (.slice A' n' c')).ownsRow wo.heap.size 117 2 (.slice A' n' c') (k2 + 1) (numCells (gdCell st.G) ((k2 + 1) * 2))) := Lib.hid (by
            rw [gdCells_succ, HGD.out]
            exact owns_keep hown' (fun g hg => set_heap _ (by simp; omega)))
          have HG7 : Hid (wo.grownBy (w6.setCell ⟨W.heap.size + 1 + 1, 1, none⟩ (.slice A' n' c')) (some (W.heap.size + 1 + 1))) := Lib.hid (gb_trans ⟨hgr.os.trans hg2.out.os, hgr.tape.trans hg2.out.tape, hgr.output.trans hg2.out.output, by omega, fun i hi hne => (hold i hi).trans (hg2.out.block i hi hne)⟩ (gb_set _ _ _ _))
          obtain ⟨⟨p0, p1, p2⟩, fp0, fp1⟩ := ho6
          clear hown' hgr hold o0 o1 o2 fo0 fo1 c0 c1
          go_wp2_with fail
          go_roundw
          case rel => exact ⟨k2 + 1, _, by omega, by go_num, HO7, HOWN7, HG7⟩
          case measure => simp [intOf]; omega
        · have hk2' : k2 = st.m := by omega
          have hge2 : ¬ (k2 : Int) < (st.m : Int) := by omega
          obtain ⟨A2, c2, hv, hog, hcl2⟩ := OwnGd.of_ownsT (P := st.G) (show wr.ownsRow wo.heap.size 117 2 v st.m (numCells (gdCell st.G) (st.m * 2)) by rw [hk2'] at hown; exact hown.out)
          subst hv
          have HOG := Lib.hid hog
          have HOP2 := Lib.hid (HOP.out.keep (w' := wr) (fun b hb1 hb2 => hg2.out.block b hb2 (by intro e; injection e with e; omega)))
          have ht := HT4.out.same (hg2.out.block _ (by omega) (by intro e; injection e with e; omega))
          obtain ⟨⟨o0, o1, o2⟩, fo0, fo1⟩ := ho.out
          obtain ⟨⟨t0, t1, t2⟩, ft0, ft1, ft2⟩ := ht
          clear hk2' hog hown
          go_wp2_with fail
          refine bodyPost_ret (v := stV A st.n c A2 st.m c2 st.lots) ?_ rfl ⟨?_, A, c, A2, c2, rfl, ?_, ?_, hcl, hcl2⟩
          · exact (by simp (maxDischargeDepth := 9) [results, Try.results20, go_sem, t0, t1, t2, stV])
          · exact ((HBW2.out.setCell (by simp) _).setCell (by simp) _).setCell (by simp) _
          · exact ((((HOP2.out.set (p := ⟨W.heap.size + 1, 0, none⟩) (by show W.heap.size + 1 < W1.heap.size; omega) (.slice A st.n c)).set (p := ⟨W.heap.size + 1, 1, none⟩) (by show W.heap.size + 1 < W1.heap.size; omega) (.slice A2 st.m c2)).set (p := ⟨W.heap.size + 1, 2, none⟩) (by show W.heap.size + 1 < W1.heap.size; omega) (.int .i64 st.lots))).mono (by omega)
          · exact ((((HOG.out.set (p := ⟨W.heap.size + 1, 0, none⟩) (by show W.heap.size + 1 < wo.heap.size; omega) (.slice A st.n c)).set (p := ⟨W.heap.size + 1, 1, none⟩) (by show W.heap.size + 1 < wo.heap.size; omega) (.slice A2 st.m c2)).set (p := ⟨W.heap.size + 1, 2, none⟩) (by show W.heap.size + 1 < wo.heap.size; omega) (.int .i64 st.lots))).mono (by omega)

set_option maxRecDepth 100000 in
set_option maxHeartbeats 4000000 in
theorem ours_any (st : St) (B : Nat) (pA gA : Option Addr) (pc gc : Nat) (W : World) (hs : StRow W B st pA pc gA gc) :
    Calls Try.prog 58 #[stV pA st.n pc gA st.m gc st.lots] W (CopyPost st W) := by
  have HS := Lib.hid hs
  have hB := hs.lt
  have hn := hs.n
  have hm := hs.m
  clear hs
  obtain ⟨i0, hi, hz0, hz1, hz2⟩ := info_parts infoPk
  obtain ⟨j0, ji, jz0, jz1, jz2⟩ := info_parts infoGd
  go_enter Try.func58, Try.ntmps58
  go_wp2_with fail
  refine wp_world (fun W1 => W1.cell? ⟨W.heap.size, 1, none⟩ = some (.slice gA st.m gc) ∧ ((W1.cell? ⟨W.heap.size + 1, 0, none⟩ = some (.slice none 0 0) ∧ W1.cell? ⟨W.heap.size + 1, 1, none⟩ = some (.slice none 0 0) ∧ W1.cell? ⟨W.heap.size + 1, 2, none⟩ = some (.int .i64 0)) ∧ W1.frozen? ⟨W.heap.size + 1, 0, none⟩ = false ∧ W1.frozen? ⟨W.heap.size + 1, 1, none⟩ = false ∧ W1.frozen? ⟨W.heap.size + 1, 2, none⟩ = false) ∧
    ((W1.cell? ⟨W.heap.size + 1 + 1, 0, none⟩ = some (.slice none 0 0) ∧ W1.cell? ⟨W.heap.size + 1 + 1, 1, none⟩ = some (.slice none 0 0) ∧ W1.cell? ⟨W.heap.size + 1 + 1, 2, none⟩ = some (.int .i64 st.lots)) ∧ W1.frozen? ⟨W.heap.size + 1 + 1, 0, none⟩ = false ∧ W1.frozen? ⟨W.heap.size + 1 + 1, 1, none⟩ = false) ∧ Below W.heap.size W W1 ∧ W.heap.size + 1 + 1 < W1.heap.size) ⟨(by (repeat' refine And.intro ?_ ?_) <;> (repeat (first | (with_reducible assumption) | (simp; done) | (with_reducible refine cell_drew_of ?_) | (with_reducible refine cell_drewN_of ?_) | (with_reducible refine cell_below_of (by with_reducible assumption) ?_) | ((with_reducible refine cell_new_of ?_ ?_) <;> (first | (with_reducible rfl) | (simp; done))) | ((with_reducible refine fro_new_of ?_) <;> (first | (with_reducible rfl) | (simp; done))) | (with_reducible refine cell_alloc_of _ ?_) | (with_reducible refine cell_set_of _ (by (first | exact Nat.le_refl _ | omega | (simp; done) | (simp; omega))) ?_) | (with_reducible refine fro_drew_of ?_) | (with_reducible refine fro_drewN_of ?_) | (with_reducible refine fro_below_of (by with_reducible assumption) (by (first | exact Nat.le_refl _ | omega | (simp; done) | (simp; omega))) ?_) | (with_reducible refine fro_alloc_of _ (by (first | exact Nat.le_refl _ | omega | (simp; done) | (simp; omega))) ?_) | (with_reducible refine fro_set_of _ ?_)))), (by (repeat' refine And.intro ?_ ?_) <;> (repeat (first | (with_reducible assumption) | (simp; done) | (with_reducible refine cell_drew_of ?_) | (with_reducible refine cell_drewN_of ?_) | (with_reducible refine cell_below_of (by with_reducible assumption) ?_) | ((with_reducible refine cell_new_of ?_ ?_) <;> (first | (with_reducible rfl) | (simp; done))) | ((with_reducible refine fro_new_of ?_) <;> (first | (with_reducible rfl) | (simp; done))) | (with_reducible refine cell_alloc_of _ ?_) | (with_reducible refine cell_set_of _ (by (first | exact Nat.le_refl _ | omega | (simp; done) | (simp; omega))) ?_) | (with_reducible refine fro_drew_of ?_) | (with_reducible refine fro_drewN_of ?_) | (with_reducible refine fro_below_of (by with_reducible assumption) (by (first | exact Nat.le_refl _ | omega | (simp; done) | (simp; omega))) ?_) | (with_reducible refine fro_alloc_of _ (by (first | exact Nat.le_refl _ | omega | (simp; done) | (simp; omega))) ?_) | (with_reducible refine fro_set_of _ ?_)))), (by (repeat' refine And.intro ?_ ?_) <;> (repeat (first | (with_reducible assumption) | (simp; done) | (with_reducible refine cell_drew_of ?_) | (with_reducible refine cell_drewN_of ?_) | (with_reducible refine cell_below_of (by with_reducible assumption) ?_) | ((with_reducible refine cell_new_of ?_ ?_) <;> (first | (with_reducible rfl) | (simp; done))) | ((with_reducible refine fro_new_of ?_) <;> (first | (with_reducible rfl) | (simp; done))) | (with_reducible refine cell_alloc_of _ ?_) | (with_reducible refine cell_set_of _ (by (first | exact Nat.le_refl _ | omega | (simp; done) | (simp; omega))) ?_) | (with_reducible refine fro_drew_of ?_) | (with_reducible refine fro_drewN_of ?_) | (with_reducible refine fro_below_of (by with_reducible assumption) (by (first | exact Nat.le_refl _ | omega | (simp; done) | (simp; omega))) ?_) | (with_reducible refine fro_alloc_of _ (by (first | exact Nat.le_refl _ | omega | (simp; done) | (simp; omega))) ?_) | (with_reducible refine fro_set_of _ ?_)))), (by repeat (first | (with_reducible exact Below.refl _ _) | (with_reducible refine Below.drew ?_) | (with_reducible refine below_drewN ?_ _) | ((with_reducible refine below_alloc ?_ ?_ _); · (first | exact Nat.le_refl _ | omega | (simp; done) | (simp; omega) | (simp at *; omega))) | ((with_reducible refine below_set ?_ ?_ _); · (first | exact Nat.le_refl _ | omega | (simp; done) | (simp; omega) | (simp at *; omega))) | ((with_reducible refine below_via (by with_reducible assumption) ?_ ?_); · (first | exact Nat.le_refl _ | omega | (simp; done) | (simp; omega) | (simp at *; omega))))), by simp⟩ ?_
  rintro W1 ⟨a1, hst0, hout, hb1, hs1⟩
  have HT0 := Lib.hid (show St0 W1 (W.heap.size + 1) from hst0)
  have HO1 := Lib.hid (show Out3 W1 (W.heap.size + 1 + 1) (.slice none 0 0) (.slice none 0 0) st.lots from hout)
  have HB1 := Lib.hid hb1
  have HA1 := Lib.hid a1
  clear hst0 hout hb1 a1
  go_loopw [14] (fun i wr => ∃ (k : Nat) (v : Value), k ≤ st.n ∧ i = .int .i64 k ∧ Hid (Out3 wr (W.heap.size + 1 + 1) v (.slice none 0 0) st.lots) ∧ Hid (wr.ownsRow W1.heap.size 75 4 v k (numCells (pkCell st.P) (k * 4))) ∧ Hid (W1.grownBy wr (some (W.heap.size + 1 + 1)))) (fun i _ => st.n - (intOf i).toNat)
  case atStart => exact ⟨0, _, Nat.zero_le _, rfl, HO1, Lib.hid (World.ownsRow_nil _ _ _ _), Lib.hid (World.grownBy.refl _ _)⟩
  case round =>
    obtain ⟨k, v, hk, rfl, ho, hown, hg⟩ := hrel
    have hsz := hg.out.size
    have HBW := Lib.hid (HB1.out.trans (gb_below hg.out (by omega) (by omega)))
    by_cases hlt : k < st.n
    · obtain ⟨b, o, rfl, hbl, c0, c1, c2, c3⟩ := (HS.out.p.below (HBW.out.mono hB)) k hlt
      have hk0 : (0 : Int) ≤ (k : Int) := by omega
      have hkn : (k : Int) < (st.n : Int) := by omega
      obtain ⟨⟨o0, o1, o2⟩, fo0, fo1⟩ := ho.out
      have hv1 := hown.out.lt
      generalize hpk : st.P k = x at c0 c1 c2 c3
      have HPK := Lib.hid hpk
      clear hpk
      go_wp2_with (at_builtin; refine wpList_append_own _ rfl (.tmp 19) (.tmp 21) 22 rfl W1.heap.size 75 i0 (.agg #[.int .i64 0, .int .i64 0, .int .i64 0, .int .i64 0]) 4 32 pks_under hi hz0 hz1 hz2 rfl (by decide) v k (numCells (pkCell st.P) (k * 4)) rfl ((hown.out.alloc _).alloc _) ⟨wr.heap.size + 1, 0, none⟩ 1 1 [.int .i64 x.s, .int .i64 x.w, .int .i64 x.o, .int .i64 x.f] rfl rfl ?c1 ?c2 ?c3 ?c4 ?c5 ?_)
      case c1 =>
        intro j u hj
        have := new_cells (w := wr.alloc (.cells #[.int .i64 x.s, .int .i64 x.w, .int .i64 x.o, .int .i64 x.f] 116)) (t := 75) (cs := [.int .i64 x.s, .int .i64 x.w, .int .i64 x.o, .int .i64 x.f]) j u hj
        simpa using this
      case c2 => intro u hu; simp only [List.mem_cons, List.not_mem_nil, or_false] at hu; rcases hu with rfl | rfl | rfl | rfl <;> rfl
      case c3 => unfold maxLen; omega
      case c4 => omega
      case c5 => simp; omega
      intro v' w6 hown' hgr _
      obtain ⟨A', n', c', hv'⟩ : ∃ A' n' c', v' = .slice A' n' c' := by
        rcases hown'.2 with ⟨h, _⟩ | ⟨_, _, _, h, _⟩
        · exact ⟨_, _, _, h⟩
        · exact ⟨_, _, _, h⟩
      subst hv'
      have hs6 := hgr.size
      simp only [World.size_alloc] at hs6
      have hold : ∀ i, i < W1.heap.size → w6.heap[i]? = wr.heap[i]? := fun i hi => (hgr.block i (by simp; omega) (fun e => by have := (hv1 i e.symm).1; omega)).trans ((Below.heap_alloc _ _ _ (by simp; omega)).trans (Below.heap_alloc _ _ _ (by omega)))
      have ho6 := ho.out.same (hold _ hs1)
      have HO7 := Lib.hid (ho6.set0 (.slice A' n' c'))
      have HOWN7 : Hid ((w6.setCell ⟨W.heap.size + 1 + 1, 0, none⟩ (.slice A' n' c')).ownsRow W1.heap.size 75 4 (.slice A' n' c') (k + 1) (numCells (pkCell st.P) ((k + 1) * 4))) := Lib.hid (by
        rw [pkCells_succ, HPK.out]
        exact owns_keep hown' (fun g hg => set_heap _ (by simp; omega)))
      have HG7 : Hid (W1.grownBy (w6.setCell ⟨W.heap.size + 1 + 1, 0, none⟩ (.slice A' n' c')) (some (W.heap.size + 1 + 1))) := Lib.hid (gb_trans ⟨hgr.os.trans hg.out.os, hgr.tape.trans hg.out.tape, hgr.output.trans hg.out.output, by omega, fun i hi hne => (hold i hi).trans (hg.out.block i hi hne)⟩ (gb_set _ _ _ _))
      obtain ⟨⟨p0, p1, p2⟩, fp0, fp1⟩ := ho6
      clear hown' hgr hold o0 o1 o2 fo0 fo1 c0 c1 c2 c3
      go_wp2_with fail
      go_roundw
      case rel => exact ⟨k + 1, _, by omega, by go_num, HO7, HOWN7, HG7⟩
      case measure => simp [intOf]; omega
    · have hk' : k = st.n := by omega
      have hge : ¬ (k : Int) < (st.n : Int) := by omega
      obtain ⟨A, c, hv, hop, hcl⟩ := OwnPk.of_ownsT (P := st.P) (show wr.ownsRow W1.heap.size 75 4 v st.n (numCells (pkCell st.P) (st.n * 4)) by rw [hk'] at hown; exact hown.out)
      subst hv
      have HOP := Lib.hid hop
      have a1 := cell_same (hg.out.block W.heap.size (by omega) (by intro e; injection e with e; omega)) HA1.out
      have HT4 := Lib.hid (HT0.out.same (hg.out.block _ (by omega) (by intro e; injection e with e; omega)))
      clear hk' hop hown
      obtain ⟨wo, rfl⟩ : ∃ wo, wo = wr := ⟨_, rfl⟩
      go_wp2_with fail
      go_loopw [28] (fun i wr => ∃ (k : Nat) (v : Value), k ≤ st.m ∧ i = .int .i64 k ∧ Hid (Out3 wr (W.heap.size + 1 + 1) (.slice A st.n c) v st.lots) ∧ Hid (wr.ownsRow wo.heap.size 82 2 v k (numCells (gdCell st.G) (k * 2))) ∧ Hid (wo.grownBy wr (some (W.heap.size + 1 + 1)))) (fun i _ => st.m - (intOf i).toNat)
      case atStart => exact ⟨0, _, Nat.zero_le _, rfl, ho, Lib.hid (World.ownsRow_nil _ _ _ _), Lib.hid (World.grownBy.refl _ _)⟩
      case round =>
        clear a1 ho
        obtain ⟨k2, v, hk2, rfl, ho, hown, hg2⟩ := hrel
        have hsz2 := hg2.out.size
        have HBW2 := Lib.hid (HBW.out.trans (gb_below hg2.out (by omega) (by omega)))
        by_cases hlt2 : k2 < st.m
        · obtain ⟨b, o, rfl, hbl, c0, c1⟩ := (HS.out.g.below (HBW2.out.mono hB)) k2 hlt2
          have hk0 : (0 : Int) ≤ (k2 : Int) := by omega
          have hkn : (k2 : Int) < (st.m : Int) := by omega
          obtain ⟨⟨o0, o1, o2⟩, fo0, fo1⟩ := ho.out
          have hv1 := hown.out.lt
          generalize hgd : st.G k2 = x at c0 c1
          have HGD := Lib.hid hgd
          clear hgd
          go_wp2_with (at_builtin; refine wpList_append_own _ rfl (.tmp 33) (.tmp 35) 23 rfl wo.heap.size 82 j0 (.agg #[.int .i64 0, .int .i64 0]) 2 16 gds_under ji jz0 jz1 jz2 rfl (by decide) v k2 (numCells (gdCell st.G) (k2 * 2)) rfl ((hown.out.alloc _).alloc _) ⟨wr.heap.size + 1, 0, none⟩ 1 1 [.int .i64 x.foul, .int .i64 x.price] rfl rfl ?c1 ?c2 ?c3 ?c4 ?c5 ?_)
          case c1 =>
            intro j u hj
            have := new_cells (w := wr.alloc (.cells #[.int .i64 x.foul, .int .i64 x.price] 117)) (t := 82) (cs := [.int .i64 x.foul, .int .i64 x.price]) j u hj
            simpa using this
          case c2 => intro u hu; simp only [List.mem_cons, List.not_mem_nil, or_false] at hu; rcases hu with rfl | rfl <;> rfl
          case c3 => unfold maxLen; omega
          case c4 => omega
          case c5 => simp; omega
          intro v' w6 hown' hgr _
          obtain ⟨A', n', c', hv'⟩ : ∃ A' n' c', v' = .slice A' n' c' := by
            rcases hown'.2 with ⟨h, _⟩ | ⟨_, _, _, h, _⟩
            · exact ⟨_, _, _, h⟩
            · exact ⟨_, _, _, h⟩
          subst hv'
          have hs6 := hgr.size
          simp only [World.size_alloc] at hs6
          have hold : ∀ i, i < wo.heap.size → w6.heap[i]? = wr.heap[i]? := fun i hi => (hgr.block i (by simp; omega) (fun e => by have := (hv1 i e.symm).1; omega)).trans ((Below.heap_alloc _ _ _ (by simp; omega)).trans (Below.heap_alloc _ _ _ (by omega)))
          have ho6 := ho.out.same (hold _ (by omega))
          have HO7 := Lib.hid (ho6.set1 (.slice A' n' c'))
          have HOWN7 : Hid ((w6.setCell ⟨W.heap.size + 1 + 1, 1, none⟩ (.slice A' n' c')).ownsRow wo.heap.size 82 2 (.slice A' n' c') (k2 + 1) (numCells (gdCell st.G) ((k2 + 1) * 2))) := Lib.hid (by
            rw [gdCells_succ, HGD.out]
            exact owns_keep hown' (fun g hg => set_heap _ (by simp; omega)))
          have HG7 : Hid (wo.grownBy (w6.setCell ⟨W.heap.size + 1 + 1, 1, none⟩ (.slice A' n' c')) (some (W.heap.size + 1 + 1))) := Lib.hid (gb_trans ⟨hgr.os.trans hg2.out.os, hgr.tape.trans hg2.out.tape, hgr.output.trans hg2.out.output, by omega, fun i hi hne => (hold i hi).trans (hg2.out.block i hi hne)⟩ (gb_set _ _ _ _))
          obtain ⟨⟨p0, p1, p2⟩, fp0, fp1⟩ := ho6
          clear hown' hgr hold o0 o1 o2 fo0 fo1 c0 c1
          go_wp2_with fail
          go_roundw
          case rel => exact ⟨k2 + 1, _, by omega, by go_num, HO7, HOWN7, HG7⟩
          case measure => simp [intOf]; omega
        · have hk2' : k2 = st.m := by omega
          have hge2 : ¬ (k2 : Int) < (st.m : Int) := by omega
          obtain ⟨A2, c2, hv, hog, hcl2⟩ := OwnGd.of_ownsT (P := st.G) (show wr.ownsRow wo.heap.size 82 2 v st.m (numCells (gdCell st.G) (st.m * 2)) by rw [hk2'] at hown; exact hown.out)
          subst hv
          have HOG := Lib.hid hog
          have HOP2 := Lib.hid (HOP.out.keep (w' := wr) (fun b hb1 hb2 => hg2.out.block b hb2 (by intro e; injection e with e; omega)))
          have ht := HT4.out.same (hg2.out.block _ (by omega) (by intro e; injection e with e; omega))
          obtain ⟨⟨o0, o1, o2⟩, fo0, fo1⟩ := ho.out
          obtain ⟨⟨t0, t1, t2⟩, ft0, ft1, ft2⟩ := ht
          clear hk2' hog hown
          go_wp2_with fail
          refine bodyPost_ret (v := stV A st.n c A2 st.m c2 st.lots) ?_ rfl ⟨?_, A, c, A2, c2, rfl, ?_, ?_, hcl, hcl2⟩
          · exact (by simp (maxDischargeDepth := 9) [results, Try.results58, go_sem, t0, t1, t2, stV])
          · exact ((HBW2.out.setCell (by simp) _).setCell (by simp) _).setCell (by simp) _
          · exact ((((HOP2.out.set (p := ⟨W.heap.size + 1, 0, none⟩) (by show W.heap.size + 1 < W1.heap.size; omega) (.slice A st.n c)).set (p := ⟨W.heap.size + 1, 1, none⟩) (by show W.heap.size + 1 < W1.heap.size; omega) (.slice A2 st.m c2)).set (p := ⟨W.heap.size + 1, 2, none⟩) (by show W.heap.size + 1 < W1.heap.size; omega) (.int .i64 st.lots))).mono (by omega)
          · exact ((((HOG.out.set (p := ⟨W.heap.size + 1, 0, none⟩) (by show W.heap.size + 1 < wo.heap.size; omega) (.slice A st.n c)).set (p := ⟨W.heap.size + 1, 1, none⟩) (by show W.heap.size + 1 < wo.heap.size; omega) (.slice A2 st.m c2)).set (p := ⟨W.heap.size + 1, 2, none⟩) (by show W.heap.size + 1 < wo.heap.size; omega) (.int .i64 st.lots))).mono (by omega)
end Go.Proofs.Ytegmomappbehcaa

set_option linter.unusedSimpArgs false
set_option linter.unusedVariables false
namespace Go.Proofs.Ytegmomappbehcaa
open Go.RowKit Go.Shelf

/-- so many sacks of a picking foul, so many of these in a lot -/
def posB (p : Pk) (x f g : Int) : Bool := inB f p.f p.hi && p.can x f g
def St.possR (st : St) (n : Nat) (X : Nat → Int) (fn gn : Nat) (F G : Nat → Int) : Bool × Int :=
  if st.askErr n X ≠ 0 then (false, st.askErr n X) else if fn ≠ st.n ∨ gn ≠ st.n then (false, 3) else (allN (fun k => posB (st.P k) (X k) (F k) (G k)) st.n, 0)
/-- as far as k numbers were asked -/
def posK (p : Pk) (x f g : Int) (k : Nat) : Bool := decide (p.f ≤ f) && decide (f < p.f + k) && p.can x f g
theorem posK_zero (p : Pk) (x f g : Int) : posK p x f g 0 = false := by
  unfold posK
  by_cases h : p.f ≤ f
  · rw [decide_eq_false (show ¬ f < p.f + ((0 : Nat) : Int) by omega)]; simp
  · rw [decide_eq_false h]; simp
theorem posK_succ (p : Pk) (x f g : Int) (k : Nat) : posK p x f g (k + 1) = (posK p x f g k || (decide (p.f + (k : Int) = f) && p.can x f g)) := by
  unfold posK
  rw [← Bool.and_or_distrib_right]
  congr 1
  rw [Bool.eq_iff_iff]
  simp only [Bool.and_eq_true, Bool.or_eq_true, decide_eq_true_eq]
  omega
theorem posK_all (p : Pk) (x f g : Int) : posK p x f g p.cnt = posB p x f g := by
  unfold posK posB inB
  congr 1
  rw [Bool.eq_iff_iff]
  simp only [Bool.and_eq_true, decide_eq_true_eq]
  unfold Pk.cnt
  omega

set_option maxRecDepth 100000 in
set_option maxHeartbeats 4000000 in
theorem rPossible_any (st : St) (B : Nat) (pA gA : Option Addr) (pc gc : Nat) (lA : Option Addr) (ln lc : Nat) (X : Nat → Int) (fA : Option Addr) (fn fc : Nat) (F : Nat → Int) (iA : Option Addr) (gn ic : Nat) (G : Nat → Int) (W : World) (hs : StRow W B st pA pc gA gc) (hl : IntRow W W.heap.size lA ln X) (hn : ln ≤ 1000)
    (hf : IntRow W W.heap.size fA fn F) (hg : IntRow W W.heap.size iA gn G) :
    Calls Try.prog 69 #[stV pA st.n pc gA st.m gc st.lots, .slice lA ln lc, .slice fA fn fc, .slice iA gn ic] W fun e W' => e = .returned (boV (st.possR ln X fn gn F G)) ∧ Below W.heap.size W W' := by
  have HS := Lib.hid hs; have HL := Lib.hid hl; have hB := hs.lt; clear hs hl
  have HF := Lib.hid hf
  have HG := Lib.hid hg
  clear hf hg
  go_enter Try.func69, Try.ntmps69
  go_wp2_with fail
  refine (rLot_any st B pA gA pc gc lA ln lc X _ (HS.out.later (by repeat (first | (with_reducible exact Below.refl _ _) | (with_reducible refine Below.drew ?_) | (with_reducible refine below_drewN ?_ _) | ((with_reducible refine below_alloc ?_ ?_ _); · (first | exact Nat.le_refl _ | omega | (simp; done) | (simp; omega) | (simp at *; omega))) | ((with_reducible refine below_set ?_ ?_ _); · (first | exact Nat.le_refl _ | omega | (simp; done) | (simp; omega) | (simp at *; omega))) | ((with_reducible refine below_via (by with_reducible assumption) ?_ ?_); · (first | exact Nat.le_refl _ | omega | (simp; done) | (simp; omega) | (simp at *; omega)))))) (HL.out.later (by repeat (first | (with_reducible exact Below.refl _ _) | (with_reducible refine Below.drew ?_) | (with_reducible refine below_drewN ?_ _) | ((with_reducible refine below_alloc ?_ ?_ _); · (first | exact Nat.le_refl _ | omega | (simp; done) | (simp; omega) | (simp at *; omega))) | ((with_reducible refine below_set ?_ ?_ _); · (first | exact Nat.le_refl _ | omega | (simp; done) | (simp; omega) | (simp at *; omega))) | ((with_reducible refine below_via (by with_reducible assumption) ?_ ?_); · (first | exact Nat.le_refl _ | omega | (simp; done) | (simp; omega) | (simp at *; omega)))))) hn).mono ?_; rintro e w1 ⟨rfl, hb1⟩; have HB1 := Lib.hid (show Below W.heap.size W w1 from (by repeat (first | (with_reducible exact Below.refl _ _) | (with_reducible refine Below.drew ?_) | (with_reducible refine below_drewN ?_ _) | ((with_reducible refine below_alloc ?_ ?_ _); · (first | exact Nat.le_refl _ | omega | (simp; done) | (simp; omega) | (simp at *; omega))) | ((with_reducible refine below_set ?_ ?_ _); · (first | exact Nat.le_refl _ | omega | (simp; done) | (simp; omega) | (simp at *; omega))) | ((with_reducible refine below_via (by with_reducible assumption) ?_ ?_); · (first | exact Nat.le_refl _ | omega | (simp; done) | (simp; omega) | (simp at *; omega)))))); have hs1 := hb1.size; simp only [World.size_alloc] at hs1; have HA := Lib.hid (show w1.cell? ⟨W.heap.size, 0, none⟩ = some (.slice pA st.n pc) ∧ w1.cell? ⟨W.heap.size, 1, none⟩ = some (.slice gA st.m gc) ∧ w1.cell? ⟨W.heap.size, 2, none⟩ = some (.int .i64 st.lots) from ⟨cell_below_of hb1 (by (repeat' refine And.intro ?_ ?_) <;> (repeat (first | (with_reducible assumption) | (simp; done) | (with_reducible refine cell_drew_of ?_) | (with_reducible refine cell_drewN_of ?_) | (with_reducible refine cell_below_of (by with_reducible assumption) ?_) | ((with_reducible refine cell_new_of ?_ ?_) <;> (first | (with_reducible rfl) | (simp; done))) | ((with_reducible refine fro_new_of ?_) <;> (first | (with_reducible rfl) | (simp; done))) | (with_reducible refine cell_alloc_of _ ?_) | (with_reducible refine cell_set_of _ (by (first | exact Nat.le_refl _ | omega | (simp; done) | (simp; omega))) ?_) | (with_reducible refine fro_drew_of ?_) | (with_reducible refine fro_drewN_of ?_) | (with_reducible refine fro_below_of (by with_reducible assumption) (by (first | exact Nat.le_refl _ | omega | (simp; done) | (simp; omega))) ?_) | (with_reducible refine fro_alloc_of _ (by (first | exact Nat.le_refl _ | omega | (simp; done) | (simp; omega))) ?_) | (with_reducible refine fro_set_of _ ?_)))), cell_below_of hb1 (by (repeat' refine And.intro ?_ ?_) <;> (repeat (first | (with_reducible assumption) | (simp; done) | (with_reducible refine cell_drew_of ?_) | (with_reducible refine cell_drewN_of ?_) | (with_reducible refine cell_below_of (by with_reducible assumption) ?_) | ((with_reducible refine cell_new_of ?_ ?_) <;> (first | (with_reducible rfl) | (simp; done))) | ((with_reducible refine fro_new_of ?_) <;> (first | (with_reducible rfl) | (simp; done))) | (with_reducible refine cell_alloc_of _ ?_) | (with_reducible refine cell_set_of _ (by (first | exact Nat.le_refl _ | omega | (simp; done) | (simp; omega))) ?_) | (with_reducible refine fro_drew_of ?_) | (with_reducible refine fro_drewN_of ?_) | (with_reducible refine fro_below_of (by with_reducible assumption) (by (first | exact Nat.le_refl _ | omega | (simp; done) | (simp; omega))) ?_) | (with_reducible refine fro_alloc_of _ (by (first | exact Nat.le_refl _ | omega | (simp; done) | (simp; omega))) ?_) | (with_reducible refine fro_set_of _ ?_)))), cell_below_of hb1 (by (repeat' refine And.intro ?_ ?_) <;> (repeat (first | (with_reducible assumption) | (simp; done) | (with_reducible refine cell_drew_of ?_) | (with_reducible refine cell_drewN_of ?_) | (with_reducible refine cell_below_of (by with_reducible assumption) ?_) | ((with_reducible refine cell_new_of ?_ ?_) <;> (first | (with_reducible rfl) | (simp; done))) | ((with_reducible refine fro_new_of ?_) <;> (first | (with_reducible rfl) | (simp; done))) | (with_reducible refine cell_alloc_of _ ?_) | (with_reducible refine cell_set_of _ (by (first | exact Nat.le_refl _ | omega | (simp; done) | (simp; omega))) ?_) | (with_reducible refine fro_drew_of ?_) | (with_reducible refine fro_drewN_of ?_) | (with_reducible refine fro_below_of (by with_reducible assumption) (by (first | exact Nat.le_refl _ | omega | (simp; done) | (simp; omega))) ?_) | (with_reducible refine fro_alloc_of _ (by (first | exact Nat.le_refl _ | omega | (simp; done) | (simp; omega))) ?_) | (with_reducible refine fro_set_of _ ?_))))⟩)
  clear hb1
  by_cases h0 : st.askErr ln X = 0
  · have hnb : (st.askErr ln X != 0) = false := by simpa using h0
    have HR0 : Hid (st.possR ln X fn gn F G = if fn ≠ st.n ∨ gn ≠ st.n then (false, 3) else (allN (fun k => posB (st.P k) (X k) (F k) (G k)) st.n, 0)) := Lib.hid (by unfold St.possR; rw [if_neg (by simp [h0])])
    have HST := Lib.hid (St.askErr_ok h0).1; have HX := Lib.hid (ask_rng h0); obtain rfl : ln = st.n := (St.askErr_ok h0).2.2
    have hs1' := HB1.out.size
    have n4 := HST.out.n4
    clear h0
    by_cases hfn : fn = st.n
    · by_cases hgn : gn = st.n
      · have HR : Hid (st.possR st.n X fn gn F G = (allN (fun k => posB (st.P k) (X k) (F k) (G k)) st.n, 0)) := Lib.hid (by rw [HR0.out, if_neg (by simp [hfn, hgn])])
        subst hfn
        subst hgn
        have hq : ((st.n : Int) != (st.n : Int)) = false := by simp
        go_wp2_with fail
        go_loopw [11] (fun i wr => ∃ k : Nat, k ≤ st.n ∧ i = .int .i64 k ∧ Hid (∀ j, j < k → posB (st.P j) (X j) (F j) (G j) = true) ∧ Hid (Below w1.heap.size w1 wr)) (fun i _ => st.n - (intOf i).toNat)
        case atStart => exact ⟨0, by omega, rfl, Lib.hid (fun j hj => absurd hj (by omega)), Lib.hid (Below.refl _ _)⟩
        case round =>
          obtain ⟨k, hk, rfl, hall, hbw⟩ := hrel
          have hsw := hbw.out.size
          have HBW := Lib.hid (HB1.out.trans (hbw.out.mono hs1'))
          have hsW := HBW.out.size
          by_cases hlt : k < st.n
          · obtain ⟨b, o, rfl, hbl, c0, c1, c2, c3⟩ := (HS.out.p.below (HBW.out.mono hB)) k hlt
            have a0 := cell_same (hbw.out.block _ (by omega)) HA.out.1
            have hk0 : (0 : Int) ≤ (k : Int) := by omega
            have hkn : (k : Int) < (st.n : Int) := by omega
            have hrng := Lib.hid (HST.out.pk k hlt)
            have hc7 : (st.P k).cnt ≤ 7 := by
              have h1 := hrng.out
              unfold Pk.rng at h1
              unfold Pk.cnt Pk.hi
              omega
            obtain ⟨wo, rfl⟩ : ∃ wo, wo = wr := ⟨_, rfl⟩
            go_wp2_with fail
            refine (fouls_any (st.P k) hrng.out _).mono ?_
            rintro e w5 ⟨⟨oA, oc, rfl, hr, hoc, _⟩, hb5⟩
            have HBW5 := Lib.hid (hbw.out.trans (hb5.mono hsw))
            have HFR := Lib.hid hr
            have hs5 := hb5.size
            clear hb5 hr a0 c0 c1 c2 c3
            go_wp2_with fail
            go_loopw [12, 46] (fun v i wz => ∃ K : Nat, K ≤ (st.P k).cnt ∧ i = .int .i64 K ∧ v = .bool (posK (st.P k) (X k) (F k) (G k) K) ∧ Hid (Below w5.heap.size w5 wz)) (fun _ i _ => (st.P k).cnt - (intOf i).toNat)
            case atStart => exact ⟨0, by omega, rfl, by rw [posK_zero], Lib.hid (Below.refl _ _)⟩
            case round =>
              obtain ⟨K, hK, rfl, rfl, hbz⟩ := hrel
              have hsz := hbz.out.size
              have hbwz := Lib.hid (HBW5.out.trans (hbz.out.mono (by omega)))
              have HWZ := Lib.hid (HB1.out.trans (hbwz.out.mono hs1'))
              have hsZ := HWZ.out.size
              by_cases hltK : K < (st.P k).cnt
              · obtain ⟨b', o', hA', _, c0, c1, c2, c3⟩ := (HS.out.p.below (HWZ.out.mono hB)) k hlt
                injection hA' with hA'
                injection hA' with e1 e2
                subst e1 e2
                obtain ⟨lb, lo, rfl, hlb, l0⟩ := (HL.out.below HWZ.out) k hlt
                obtain ⟨qb, qo, rfl, hqb, q0⟩ := (HF.out.below HWZ.out) k hlt
                obtain ⟨ib, io, rfl, hib, i0⟩ := (HG.out.below HWZ.out) k hlt
                obtain ⟨ob, oo, rfl, hob, d0⟩ := HFR.out K hltK
                have d0 := cell_same (hbz.out.block _ hob) d0
                have a0 := cell_same (hbwz.out.block _ (by omega)) HA.out.1
                have hK0 : (0 : Int) ≤ (K : Int) := by omega
                have hKn : (K : Int) < ((st.P k).cnt : Int) := by omega
                have HSC := Lib.hid (posK_succ (st.P k) (X k) (F k) (G k) K)
                have HCAN := Lib.hid (show (0 ≤ X k ∧ X k ≤ (st.P k).s) ∧ 0 ≤ (st.P k).f + (K : Int) ∧ (st.P k).f + (K : Int) ≤ 6 from ⟨HX.out k hlt, by
                  have h1 := hrng.out
                  unfold Pk.rng at h1
                  unfold Pk.cnt Pk.hi at hltK
                  omega⟩)
                have HLK := Lib.hid hltK
                clear hltK
                cases hp : posK (st.P k) (X k) (F k) (G k) K with
                | true =>
                  have HV : Hid (posK (st.P k) (X k) (F k) (G k) (K + 1) = true) := Lib.hid (by rw [HSC.out, hp, Bool.true_or])
                  go_wp2_with fail
                  refine region_qbw (by kernel_rfl) (by kernel_rfl) ?_
                  have x0 := cell_regrown a0
                  have x1 := cell_regrown c0
                  have x2 := cell_regrown c1
                  have x3 := cell_regrown c2
                  have x4 := cell_regrown c3
                  have x5 := cell_regrown l0
                  have x6 := cell_regrown q0
                  have x7 := cell_regrown i0
                  clear a0 c0 c1 c2 c3 l0 q0 i0 d0
                  repeat (first | go_big_quiet_step (fail) | quiet_step (fail))
                  refine wpQuiet_nil ?_; intro wq hbq
                  clear x0 x1 x2 x3 x4 x5 x6 x7
                  have hbz2 := Lib.hid (hbz.out.trans (hbq.mono hsz))
                  clear hbq
                  go_wp2_with fail
                  go_roundw
                  case rel => exact ⟨K + 1, HLK.out, by go_num, by rw [HV.out], hbz2⟩
                  case measure => have := HLK.out; simp [intOf]; omega
                | false =>
                  cases he : ((st.P k).f + (K : Int) == F k) with
                  | false =>
                    have HV : Hid (posK (st.P k) (X k) (F k) (G k) (K + 1) = false) := Lib.hid (by rw [HSC.out, hp, decide_eq_false (by simpa using he)]; rfl)
                    go_wp2_with fail
                    refine region_qbw (by kernel_rfl) (by kernel_rfl) ?_
                    have x0 := cell_regrown a0
                    have x1 := cell_regrown c0
                    have x2 := cell_regrown c1
                    have x3 := cell_regrown c2
                    have x4 := cell_regrown c3
                    have x5 := cell_regrown l0
                    have x6 := cell_regrown q0
                    have x7 := cell_regrown i0
                    clear a0 c0 c1 c2 c3 l0 q0 i0 d0
                    repeat (first | go_big_quiet_step (fail) | quiet_step (fail))
                    refine wpQuiet_nil ?_; intro wq hbq
                    clear x0 x1 x2 x3 x4 x5 x6 x7
                    have hbz2 := Lib.hid (hbz.out.trans (hbq.mono hsz))
                    clear hbq
                    go_wp2_with fail
                    go_roundw
                    case rel => exact ⟨K + 1, HLK.out, by go_num, by rw [HV.out], hbz2⟩
                    case measure => have := HLK.out; simp [intOf]; omega
                  | true =>
                    have HV : Hid (posK (st.P k) (X k) (F k) (G k) (K + 1) = (st.P k).can (X k) ((st.P k).f + (K : Int)) (G k)) := Lib.hid (by
                      have e : (st.P k).f + (K : Int) = F k := by simpa using he
                      rw [HSC.out, hp, decide_eq_true e, Bool.false_or, Bool.true_and, e])
                    go_wp2_with fail
                    refine region_qbw (by kernel_rfl) (by kernel_rfl) ?_
                    have x0 := cell_regrown a0
                    have x1 := cell_regrown c0
                    have x2 := cell_regrown c1
                    have x3 := cell_regrown c2
                    have x4 := cell_regrown c3
                    have x5 := cell_regrown l0
                    have x6 := cell_regrown q0
                    have x7 := cell_regrown i0
                    clear a0 c0 c1 c2 c3 l0 q0 i0 d0
                    repeat (first | go_big_quiet_step ((go_at_call 123; exact Calls.regrown_of (can_any (st.P k) hrng.out _ _ _ HCAN.out.1 HCAN.out.2 _))) | quiet_step ((go_at_call 123; exact Calls.regrown_of (can_any (st.P k) hrng.out _ _ _ HCAN.out.1 HCAN.out.2 _))))
                    refine wpQuiet_nil ?_; intro wq hbq
                    clear x0 x1 x2 x3 x4 x5 x6 x7
                    have hbz2 := Lib.hid (hbz.out.trans (hbq.mono hsz))
                    clear hbq
                    go_wp2_with fail
                    go_roundw
                    case rel => exact ⟨K + 1, HLK.out, by go_num, by rw [HV.out], hbz2⟩
                    case measure => have := HLK.out; simp [intOf]; omega
              · have hK' : K = (st.P k).cnt := by omega
                have hge : ¬ (K : Int) < ((st.P k).cnt : Int) := by omega
                have HE : Hid (posK (st.P k) (X k) (F k) (G k) K = posB (st.P k) (X k) (F k) (G k)) := Lib.hid (by rw [hK', posK_all])
                rw [HE.out]
                clear hK'
                cases hp : posB (st.P k) (X k) (F k) (G k) with
                | true =>
                  have HP := Lib.hid hp
                  go_wp2_with fail
                  go_roundw
                  case rel => exact ⟨k + 1, by omega, by go_num, Lib.hid (fun j hj => by rcases Nat.lt_or_ge j k with h | h; exact hall.out j h; rw [show j = k from by omega]; exact HP.out), hbwz⟩
                  case measure => simp [intOf]; omega
                | false =>
                  have HV : Hid (st.possR st.n X st.n st.n F G = (false, 0)) := Lib.hid (by rw [HR.out, allN_false (k := k) hlt hp])
                  go_wp2_with fail
                  go_ret2
                  exact ⟨by rw [HV.out]; rfl, HWZ.out⟩
          · have hk' : k = st.n := by omega
            have hge : ¬ (k : Int) < (st.n : Int) := by omega
            have HV : Hid (st.possR st.n X st.n st.n F G = (true, 0)) := Lib.hid (by rw [HR.out, allN_iff.2 (fun j hj => hall.out j (by omega))])
            go_wp2_with fail
            go_ret2
            exact ⟨by rw [HV.out]; rfl, HBW.out⟩
      · have HR : Hid (st.possR st.n X fn gn F G = (false, 3)) := Lib.hid (by rw [HR0.out, if_pos (.inr hgn)])
        have hb1 : ((fn : Int) != (st.n : Int)) = false := by simp [hfn]
        have hb2 : ((gn : Int) != (st.n : Int)) = true := by rw [bne_iff_ne]; omega
        clear hfn hgn
        go_wp2_with fail
        go_ret2
        exact ⟨by rw [HR.out]; rfl, HB1.out⟩
    · have HR : Hid (st.possR st.n X fn gn F G = (false, 3)) := Lib.hid (by rw [HR0.out, if_pos (.inl hfn)])
      have hb1 : ((fn : Int) != (st.n : Int)) = true := by rw [bne_iff_ne]; omega
      clear hfn
      go_wp2_with fail
      go_ret2
      exact ⟨by rw [HR.out]; rfl, HB1.out⟩
  · have hnb : (st.askErr ln X != 0) = true := by simpa using h0
    have HR : Hid (st.possR ln X fn gn F G = (false, st.askErr ln X)) := Lib.hid (by unfold St.possR; rw [if_pos (by simpa using h0)])
    clear h0
    go_wp2_with fail
    go_ret2
    exact ⟨by rw [HR.out]; rfl, HB1.out⟩
end Go.Proofs.Ytegmomappbehcaa

set_option linter.unusedSimpArgs false
set_option linter.unusedVariables false
namespace Go.Proofs.Ytegmomappbehcaa
open Go.RowKit Go.Shelf

theorem heap_drew_of {w : World} {i : Nat} {r : Option Obj} (h : w.heap[i]? = r) : w.drew.heap[i]? = r := h

theorem heap_new_at {w : World} {o : Obj} {i : Nat} (h : w.heap.size = i) : (w.alloc o).heap[i]? = some o := by
  subst h
  exact heap_alloc_new w o
/-- a row of one's own is as it was if its block is -/
theorem OwnPk.keepB {w w' : World} {lo n : Nat} {A : Option Addr} {P : Nat → Pk} (h : OwnPk w lo A n P) (hk : ∀ b, A = some ⟨b, 0, none⟩ → w'.heap[b]? = w.heap[b]?) : OwnPk w' lo A n P := fun k hlt => by
  obtain ⟨b, hA, hl, c0, c1, c2, c3, hf⟩ := h k hlt
  have hs := hk b hA
  exact ⟨b, hA, hl, cell_same hs c0, cell_same hs c1, cell_same hs c2, cell_same hs c3, fun i => fro_same hs (hf i)⟩
theorem OwnGd.keepB {w w' : World} {lo n : Nat} {A : Option Addr} {P : Nat → Gd} (h : OwnGd w lo A n P) (hk : ∀ b, A = some ⟨b, 0, none⟩ → w'.heap[b]? = w.heap[b]?) : OwnGd w' lo A n P := fun k hlt => by
  obtain ⟨b, hA, hl, c0, c1, hf⟩ := h k hlt
  have hs := hk b hA
  exact ⟨b, hA, hl, cell_same hs c0, cell_same hs c1, fun i => fro_same hs (hf i)⟩

theorem run_app_none {P : Program} {w : World} (base : Nat) (t ty e : TypeId) (i : TypeInfo) (size : Nat) (ht : P.underlying t = some (.slice e)) (hi : P.info? e = some i)
    (v : Value) (n : Nat) (xs : List Value) (hown : w.ownsRow base e size v n xs) (c : Nat) : (Builtin.append_ #[t, t] ty #[v, .slice none 0 c]).run P w = .ok v w := by
  rcases hown.2 with ⟨rfl, rfl⟩ | ⟨g, cap, cur, rfl, _, _, hnc, _⟩
  · simp [Builtin.append_, run_underlying ht, sizeOf, typeInfo, hi, Builtin.lenOf, Builtin.firstCells]
  · simp [Builtin.append_, run_underlying ht, sizeOf, typeInfo, hi, Builtin.lenOf, Builtin.firstCells, hnc, storeCells]

theorem owns_empty {w : World} {lo g : Nat} {e : TypeId} {size : Nat} (hg : w.heap[g]? = some (.cells #[] e)) (hl : lo ≤ g) : w.ownsRow lo e size (.slice (some ⟨g, 0, none⟩) 0 0) 0 [] :=
  ⟨by simp, .inr ⟨g, 0, #[], rfl, hl, hg, Nat.le_refl _, Nat.zero_le _, by simp, by simp⟩⟩

theorem step_app {P : Program} {w : World} {ops : Array Oper} {o : Oper} {a : Act} {K : Act → World → Prop} {Q : Exit → Act → World → Prop} {E : Prop} (hgd : o.guard = none) (s x : Operand) (T TE : TypeId)
    (ho : o.op = .call { callee := .builtin .append, args := #[s, x], argTypes := #[T, T] }) (i : TypeInfo) (z : Value) (size bytes : Nat)
    (ht : P.underlying T = some (.slice TE)) (hi : P.info? TE = some i) (hz : i.zero = some z) (hsize : i.size = size) (hby : i.bytes = bytes) (hzs : z.cells.size = size) (hsz : 0 < size) (hb2 : bytes ≤ 64)
    (lo g : Nat) (hs : a.eval s = .slice (some ⟨g, 0, none⟩) 0 0) (hg : w.heap[g]? = some (.cells #[] TE)) (hlo : lo ≤ g)
    (A : Option Addr) (n c : Nat) (cells : Nat → Int) (hx : a.eval x = .slice A n c) (hA : A = none → n = 0) (hr : ∀ ad, A = some ad → ∀ j, j < n * size → w.cell? (ad.add j) = some (.int .i64 (cells j))) (hn : n ≤ 1000)
    (h : ∀ v w', w'.ownsRow lo TE size v n (numCells cells (n * size)) → w.grownBy w' (some g) → (v.ownBlock = some g ∨ v.ownBlock = some w.heap.size) → K (a.put o.dst v) w') :
    if Region.wanted o (yielded ops a.tmps) = true then Oper.wp P o a w K Q else E := by
  have hw : Region.wanted o (yielded ops a.tmps) = true := by simp [Region.wanted, hgd]
  have hgl : g < w.heap.size := (Array.getElem?_eq_some_iff.1 hg).1
  rw [if_pos hw]
  have hrun : ∃ v w', (Builtin.append_ #[T, T] o.type #[.slice (some ⟨g, 0, none⟩) 0 0, .slice A n c]).run P w = .ok v w' ∧ w'.ownsRow lo TE size v n (numCells cells (n * size)) ∧ w.grownBy w' (some g) ∧ (v.ownBlock = some g ∨ v.ownBlock = some w.heap.size) := by
    cases A with
    | none =>
      obtain rfl := hA rfl
      exact ⟨_, w, run_app_none lo T o.type TE i size ht hi _ 0 [] (owns_empty hg hlo) c, by simpa [numCells] using owns_empty (size := size) hg hlo, World.grownBy.refl _ _, .inl rfl⟩
    | some ad =>
      obtain ⟨v', w', hr1, h2, h3, _, h5⟩ := run_append_own_at (P := P) w lo T o.type TE i z size bytes ht hi hz hsize hby hzs hsz _ 0 [] (owns_empty hg hlo) ad n c (numCells cells (n * size)) (numCells_len _ _)
        (fun j u hj => by
          have hjn : j < n * size := by have := (List.getElem?_eq_some_iff.1 hj).1; rwa [numCells_len] at this
          rw [numCells_get _ hjn] at hj
          injection hj with hj
          subst hj
          exact hr ad rfl j hjn) (numCells_one _ _) (by unfold maxLen; omega) (by have : (0 + n) * bytes ≤ 1000 * 64 := Nat.mul_le_mul (by omega) hb2; omega) (by omega)
      exact ⟨v', w', hr1, by simpa using h2, h3, h5⟩
  obtain ⟨v', w', hr1, h2, h3, h5⟩ := hrun
  unfold Oper.wp execOp
  simp only [ho, resolve, invoke, builtin, Sem.run_bind, Sem.run_pure, Result.andThen_ok, List.map_toArray, List.map_cons, List.map_nil, hs, hx, hr1]
  exact h v' w' h2 h3 h5
end Go.Proofs.Ytegmomappbehcaa

set_option linter.unusedSimpArgs false
set_option linter.unusedVariables false
namespace Go.Proofs.Ytegmomappbehcaa
open Go.RowKit Go.Shelf

/-- what Bad gives -/
def BadPost (st : St) (n : Nat) (X : Nat → Int) (W : World) (e : Ending) (W' : World) : Prop :=
  Below W.heap.size W W' ∧ ((st.askErr n X = 0 ∧ ∃ A c A2 c2, e = .returned (.tuple #[.slice A st.n c, .slice A2 st.n c2, .int .i64 0]) ∧ IntRow W' W'.heap.size A st.n (fun k => (st.P k).hi) ∧ IntRow W' W'.heap.size A2 st.n (fun k => (st.P k).hiOf (X k)) ∧ st.n ≤ c ∧ st.n ≤ c2) ∨
    (st.askErr n X ≠ 0 ∧ e = .returned (.tuple #[.slice none 0 0, .slice none 0 0, .int .i64 (st.askErr n X)])))

set_option maxRecDepth 100000 in
set_option maxHeartbeats 8000000 in
theorem Bad_any (st : St) (B : Nat) (pA gA : Option Addr) (pc gc : Nat) (lA : Option Addr) (ln lc : Nat) (X : Nat → Int) (W : World) (hs : StRow W B st pA pc gA gc) (hl : IntRow W W.heap.size lA ln X) (hn : ln ≤ 1000) :
    Calls Try.prog 51 #[stV pA st.n pc gA st.m gc st.lots, .slice lA ln lc] W (BadPost st ln X W) := by
  have HS := Lib.hid hs; have hB := hs.lt; have HL := Lib.hid hl; clear hs hl
  go_enter Try.func51, Try.ntmps51
  go_wp2_with fail
  refine (asked_any st B pA gA pc gc lA ln lc X _ (HS.out.later (by repeat (first | (with_reducible exact Below.refl _ _) | (with_reducible refine Below.drew ?_) | (with_reducible refine below_drewN ?_ _) | ((with_reducible refine below_alloc ?_ ?_ _); · (first | exact Nat.le_refl _ | omega | (simp; done) | (simp; omega) | (simp at *; omega))) | ((with_reducible refine below_set ?_ ?_ _); · (first | exact Nat.le_refl _ | omega | (simp; done) | (simp; omega) | (simp at *; omega))) | ((with_reducible refine below_via (by with_reducible assumption) ?_ ?_); · (first | exact Nat.le_refl _ | omega | (simp; done) | (simp; omega) | (simp at *; omega)))))) (HL.out.later (by repeat (first | (with_reducible exact Below.refl _ _) | (with_reducible refine Below.drew ?_) | (with_reducible refine below_drewN ?_ _) | ((with_reducible refine below_alloc ?_ ?_ _); · (first | exact Nat.le_refl _ | omega | (simp; done) | (simp; omega) | (simp at *; omega))) | ((with_reducible refine below_set ?_ ?_ _); · (first | exact Nat.le_refl _ | omega | (simp; done) | (simp; omega) | (simp at *; omega))) | ((with_reducible refine below_via (by with_reducible assumption) ?_ ?_); · (first | exact Nat.le_refl _ | omega | (simp; done) | (simp; omega) | (simp at *; omega)))))) hn).mono ?_; rintro e w1 ⟨hb1, ⟨h0, db, rfl, hD, hdb⟩ | ⟨h0, p, rfl⟩⟩
  · have hs1 := hb1.size
    have HB1 := Lib.hid (show Below W.heap.size W w1 from (by repeat (first | (with_reducible exact Below.refl _ _) | (with_reducible refine Below.drew ?_) | (with_reducible refine below_drewN ?_ _) | ((with_reducible refine below_alloc ?_ ?_ _); · (first | exact Nat.le_refl _ | omega | (simp; done) | (simp; omega) | (simp at *; omega))) | ((with_reducible refine below_set ?_ ?_ _); · (first | exact Nat.le_refl _ | omega | (simp; done) | (simp; omega) | (simp at *; omega))) | ((with_reducible refine below_via (by with_reducible assumption) ?_ ?_); · (first | exact Nat.le_refl _ | omega | (simp; done) | (simp; omega) | (simp at *; omega))))))
    have HST := Lib.hid (St.askErr_ok h0).1
    have HX := Lib.hid (ask_rng h0)
    have H0 := Lib.hid h0
    obtain rfl : ln = st.n := (St.askErr_ok h0).2.2
    have n4 := HST.out.n4
    have HXB := Lib.hid (fun k (hk : k < st.n) => bagOf_at (X := X) hk (show k < 4 by omega))
    simp only [World.size_alloc] at hdb hs1
    obtain ⟨pA', pc', gA', gc', hpr, _, q0, _, _, _⟩ := hD.rows
    have HPR := Lib.hid hpr
    have hdl := hD.lt
    generalize bagOf X st.n = x at *
    obtain ⟨i0, hi, hz0, hz1, hz2⟩ := info_parts infoInt
    clear hb1 hD h0 hpr
    go_wp2_with fail
    have HQ0 := Lib.hid q0
    have HBG0 := Lib.hid (show BagAt (w1.alloc (.cells #[.int .i64 x.a, .int .i64 x.b, .int .i64 x.c, .int .i64 x.d] 123)) w1.heap.size x from (by (repeat' refine And.intro ?_ ?_) <;> (repeat (first | (with_reducible assumption) | (simp; done) | (with_reducible refine cell_drew_of ?_) | (with_reducible refine cell_drewN_of ?_) | (with_reducible refine cell_below_of (by with_reducible assumption) ?_) | ((with_reducible refine cell_new_of ?_ ?_) <;> (first | (with_reducible rfl) | (simp; done))) | ((with_reducible refine fro_new_of ?_) <;> (first | (with_reducible rfl) | (simp; done))) | (with_reducible refine cell_alloc_of _ ?_) | (with_reducible refine cell_set_of _ (by (first | exact Nat.le_refl _ | omega | (simp; done) | (simp; omega))) ?_) | (with_reducible refine fro_drew_of ?_) | (with_reducible refine fro_drewN_of ?_) | (with_reducible refine fro_below_of (by with_reducible assumption) (by (first | exact Nat.le_refl _ | omega | (simp; done) | (simp; omega))) ?_) | (with_reducible refine fro_alloc_of _ (by (first | exact Nat.le_refl _ | omega | (simp; done) | (simp; omega))) ?_) | (with_reducible refine fro_set_of _ ?_)))))
    clear q0
    refine (ends_any _).mono ?_
    rintro e w2 ⟨rfl, hb2⟩
    have hs2 := hb2.size
    simp only [World.size_alloc] at hs2
    have HBG2 := Lib.hid (HBG0.out.later hb2)
    have q2 : w2.cell? ⟨db, 0, none⟩ = some (.slice pA' st.n pc') := cell_below_of hb2 (cell_alloc_of _ HQ0.out)
    have HB2 := Lib.hid (show Below w1.heap.size w1 w2 from (by repeat (first | (with_reducible exact Below.refl _ _) | (with_reducible refine Below.drew ?_) | (with_reducible refine below_drewN ?_ _) | ((with_reducible refine below_alloc ?_ ?_ _); · (first | exact Nat.le_refl _ | omega | (simp; done) | (simp; omega) | (simp at *; omega))) | ((with_reducible refine below_set ?_ ?_ _); · (first | exact Nat.le_refl _ | omega | (simp; done) | (simp; omega) | (simp at *; omega))) | ((with_reducible refine below_via (by with_reducible assumption) ?_ ?_); · (first | exact Nat.le_refl _ | omega | (simp; done) | (simp; omega) | (simp at *; omega))))))
    clear hb2
    go_wp2_with fail
    refine wp_world (fun W1 => W1.cell? ⟨w2.heap.size + 1, 0, none⟩ = some (.func (.func 129) #[] #[]) ∧ BagAt W1 w1.heap.size x ∧ W1.cell? ⟨db, 0, none⟩ = some (.slice pA' st.n pc') ∧ Below w1.heap.size w1 W1 ∧ w2.heap.size + 1 < W1.heap.size) ⟨(by (repeat' refine And.intro ?_ ?_) <;> (repeat (first | (with_reducible assumption) | (simp; done) | (with_reducible refine cell_drew_of ?_) | (with_reducible refine cell_drewN_of ?_) | (with_reducible refine cell_below_of (by with_reducible assumption) ?_) | ((with_reducible refine cell_new_of ?_ ?_) <;> (first | (with_reducible rfl) | (simp; done))) | ((with_reducible refine fro_new_of ?_) <;> (first | (with_reducible rfl) | (simp; done))) | (with_reducible refine cell_alloc_of _ ?_) | (with_reducible refine cell_set_of _ (by (first | exact Nat.le_refl _ | omega | (simp; done) | (simp; omega))) ?_) | (with_reducible refine fro_drew_of ?_) | (with_reducible refine fro_drewN_of ?_) | (with_reducible refine fro_below_of (by with_reducible assumption) (by (first | exact Nat.le_refl _ | omega | (simp; done) | (simp; omega))) ?_) | (with_reducible refine fro_alloc_of _ (by (first | exact Nat.le_refl _ | omega | (simp; done) | (simp; omega))) ?_) | (with_reducible refine fro_set_of _ ?_)))), (HBG2.out.later (by repeat (first | (with_reducible exact Below.refl _ _) | (with_reducible refine Below.drew ?_) | (with_reducible refine below_drewN ?_ _) | ((with_reducible refine below_alloc ?_ ?_ _); · (first | exact Nat.le_refl _ | omega | (simp; done) | (simp; omega) | (simp at *; omega))) | ((with_reducible refine below_set ?_ ?_ _); · (first | exact Nat.le_refl _ | omega | (simp; done) | (simp; omega) | (simp at *; omega))) | ((with_reducible refine below_via (by with_reducible assumption) ?_ ?_); · (first | exact Nat.le_refl _ | omega | (simp; done) | (simp; omega) | (simp at *; omega)))))), (by (repeat' refine And.intro ?_ ?_) <;> (repeat (first | (with_reducible assumption) | (simp; done) | (with_reducible refine cell_drew_of ?_) | (with_reducible refine cell_drewN_of ?_) | (with_reducible refine cell_below_of (by with_reducible assumption) ?_) | ((with_reducible refine cell_new_of ?_ ?_) <;> (first | (with_reducible rfl) | (simp; done))) | ((with_reducible refine fro_new_of ?_) <;> (first | (with_reducible rfl) | (simp; done))) | (with_reducible refine cell_alloc_of _ ?_) | (with_reducible refine cell_set_of _ (by (first | exact Nat.le_refl _ | omega | (simp; done) | (simp; omega))) ?_) | (with_reducible refine fro_drew_of ?_) | (with_reducible refine fro_drewN_of ?_) | (with_reducible refine fro_below_of (by with_reducible assumption) (by (first | exact Nat.le_refl _ | omega | (simp; done) | (simp; omega))) ?_) | (with_reducible refine fro_alloc_of _ (by (first | exact Nat.le_refl _ | omega | (simp; done) | (simp; omega))) ?_) | (with_reducible refine fro_set_of _ ?_)))), HB2.out.trans ((show Below w2.heap.size w2 _ from (by repeat (first | (with_reducible exact Below.refl _ _) | (with_reducible refine Below.drew ?_) | (with_reducible refine below_drewN ?_ _) | ((with_reducible refine below_alloc ?_ ?_ _); · (first | exact Nat.le_refl _ | omega | (simp; done) | (simp; omega) | (simp at *; omega))) | ((with_reducible refine below_set ?_ ?_ _); · (first | exact Nat.le_refl _ | omega | (simp; done) | (simp; omega) | (simp at *; omega))) | ((with_reducible refine below_via (by with_reducible assumption) ?_ ?_); · (first | exact Nat.le_refl _ | omega | (simp; done) | (simp; omega) | (simp at *; omega)))))).mono (by omega)), by simp⟩ ?_
    clear HBG2 HB2 HQ0 HBG0 q2
    rintro W1 ⟨cf, hbg, q0, hb1, hsW⟩
    have HCF := Lib.hid cf
    have HBG := Lib.hid hbg
    have HB := Lib.hid hb1
    clear cf hbg hb1
    go_loopw [12, 13, 36] (fun v u i wr => ∃ k : Nat, k ≤ st.n ∧ i = .int .i64 k ∧ Hid (wr.ownsRow W1.heap.size 3 1 v k (numCells (fun k => (st.P k).hi) k)) ∧ Hid (wr.ownsRow W1.heap.size 3 1 u k (numCells (fun k => (st.P k).hiOf (X k)) k)) ∧ Hid (u.ownBlock = none ∨ u.ownBlock ≠ v.ownBlock) ∧ Hid (Below W1.heap.size W1 wr)) (fun _ _ i _ => st.n - (intOf i).toNat)
    case atStart => exact ⟨0, Nat.zero_le _, rfl, Lib.hid (World.ownsRow_nil _ _ _ _), Lib.hid (World.ownsRow_nil _ _ _ _), Lib.hid (.inl rfl), Lib.hid (Below.refl _ _)⟩
    case round =>
      obtain ⟨k, hk, rfl, hownV, hownU, hdis, hbw⟩ := hrel
      have hsw := hbw.out.size
      by_cases hlt : k < st.n
      · obtain ⟨b, o, rfl, hbl, c0, c1, c2, c3⟩ := (HPR.out.below ((HB.out.trans (hbw.out.mono (by omega))).mono (by omega))) k hlt
        have hk0 : (0 : Int) ≤ (k : Int) := by omega
        have hkn : (k : Int) < (st.n : Int) := by omega
        have hk4 : (k : Int) < 4 := by omega
        have hrg := Lib.hid (HST.out.pk k hlt)
        have hxk := Lib.hid (HX.out k hlt)
        have exk := HXB.out k hlt
        obtain ⟨⟨b0, b1, b2, b3⟩, _⟩ := HBG.out.same (hbw.out.block _ (by omega))
        have bx := at4' b0 b1 b2 b3 k (by omega)
        rw [exk] at bx
        have cf := cell_same (hbw.out.block _ hsW) HCF.out
        have hvV := hownV.out.lt
        have hvU := hownU.out.lt
        clear b0 b1 b2 b3 q0 exk
        go_upto_region 9 with fail
        go_region_held_law (fun w' => (w'.cell? ⟨wr.heap.size, 0, none⟩ = some (.int .i64 (st.P k).s) ∧ w'.cell? ⟨wr.heap.size, 1, none⟩ = some (.int .i64 (st.P k).w) ∧ w'.cell? ⟨wr.heap.size, 2, none⟩ = some (.int .i64 (st.P k).o) ∧ w'.cell? ⟨wr.heap.size, 3, none⟩ = some (.int .i64 (st.P k).f)) ∧ w'.cell? ⟨w2.heap.size + 1, 0, none⟩ = some (.func (.func 129) #[] #[]) ∧ w'.cell? ⟨w1.heap.size, k, none⟩ = some (.int .i64 (X k))) (first | (go_split_ands; (refine ⟨⟨?_, ?_, ?_, ?_⟩, ?_, ?_⟩ <;> (refine (hgr6.cell_far _ ?_ ?_).trans ?_; (· (first | omega | (simp only [World.size_alloc, World.size_drew]; omega) | (simp; done) | (simp; omega))); (· (intro e; have := hvV _ e.symm; (try dsimp only at this); omega)); (· (repeat (first | (with_reducible assumption) | (simp; done) | (with_reducible refine cell_drew_of ?_) | (with_reducible refine cell_drewN_of ?_) | (with_reducible refine cell_below_of (by with_reducible assumption) ?_) | ((with_reducible refine cell_new_of ?_ ?_) <;> (first | (with_reducible rfl) | (simp; done))) | ((with_reducible refine fro_new_of ?_) <;> (first | (with_reducible rfl) | (simp; done))) | (with_reducible refine cell_alloc_of _ ?_) | (with_reducible refine cell_set_of _ (by (first | exact Nat.le_refl _ | omega | (simp; done) | (simp; omega))) ?_) | (with_reducible refine fro_drew_of ?_) | (with_reducible refine fro_drewN_of ?_) | (with_reducible refine fro_below_of (by with_reducible assumption) (by (first | exact Nat.le_refl _ | omega | (simp; done) | (simp; omega))) ?_) | (with_reducible refine fro_alloc_of _ (by (first | exact Nat.le_refl _ | omega | (simp; done) | (simp; omega))) ?_) | (with_reducible refine fro_set_of _ ?_)))))); done) | (go_split_ands; (refine ⟨⟨?_, ?_, ?_, ?_⟩, ?_, ?_⟩ <;> (refine (hgr7.cell_far _ ?_ ?_).trans ?_; (· (first | omega | (simp only [World.size_alloc, World.size_drew]; omega) | (simp; done) | (simp; omega))); (· (intro e; have := hvU _ e.symm; (try dsimp only at this); omega)); (· (repeat (first | (with_reducible assumption) | (simp; done) | (with_reducible refine cell_drew_of ?_) | (with_reducible refine cell_drewN_of ?_) | (with_reducible refine cell_below_of (by with_reducible assumption) ?_) | ((with_reducible refine cell_new_of ?_ ?_) <;> (first | (with_reducible rfl) | (simp; done))) | ((with_reducible refine fro_new_of ?_) <;> (first | (with_reducible rfl) | (simp; done))) | (with_reducible refine cell_alloc_of _ ?_) | (with_reducible refine cell_set_of _ (by (first | exact Nat.le_refl _ | omega | (simp; done) | (simp; omega))) ?_) | (with_reducible refine fro_drew_of ?_) | (with_reducible refine fro_drewN_of ?_) | (with_reducible refine fro_below_of (by with_reducible assumption) (by (first | exact Nat.le_refl _ | omega | (simp; done) | (simp; omega))) ?_) | (with_reducible refine fro_alloc_of _ (by (first | exact Nat.le_refl _ | omega | (simp; done) | (simp; omega))) ?_) | (with_reducible refine fro_set_of _ ?_)))))); done) | ((go_split_ands; (repeat' refine And.intro ?_ ?_) <;> (repeat (first | (with_reducible assumption) | (simp; done) | (with_reducible refine cell_drew_of ?_) | (with_reducible refine cell_drewN_of ?_) | (with_reducible refine cell_below_of (by with_reducible assumption) ?_) | ((with_reducible refine cell_new_of ?_ ?_) <;> (first | (with_reducible rfl) | (simp; done))) | ((with_reducible refine fro_new_of ?_) <;> (first | (with_reducible rfl) | (simp; done))) | (with_reducible refine cell_alloc_of _ ?_) | (with_reducible refine cell_set_of _ (by (first | exact Nat.le_refl _ | omega | (simp; done) | (simp; omega))) ?_) | (with_reducible refine fro_drew_of ?_) | (with_reducible refine fro_drewN_of ?_) | (with_reducible refine fro_below_of (by with_reducible assumption) (by (first | exact Nat.le_refl _ | omega | (simp; done) | (simp; omega))) ?_) | (with_reducible refine fro_alloc_of _ (by (first | exact Nat.le_refl _ | omega | (simp; done) | (simp; omega))) ?_) | (with_reducible refine fro_set_of _ ?_)))))) (first | (go_at_call 99; refine (pspan_any _ _ _ _ _ hrg.out.1 hrg.out.2.2.1 hrg.out.2.2.2).mono ?_; rintro e wa ⟨he, hba⟩; have he' : e = .returned (.agg #[.int .i64 (st.P k).f, .int .i64 (st.P k).hi]) := he; subst he'; obtain ⟨hca, hfa⟩ := bcell hba; have hza := hba.size; (try simp only [World.size_drew, World.heap_drewN, World.size_alloc] at hza); clear hca hfa) | (go_at_call 129; refine (end_hi.1 (st.P k) (X k) _ hrg.out hxk.out).mono ?_; rintro e wb ⟨rfl, hbb⟩; obtain ⟨hcb, hfb⟩ := bcell hbb; have hzb := hbb.size; (try simp only [World.size_drew, World.heap_drewN, World.size_alloc] at hzb); clear hcb hfb) | (refine step_append_lies _ (by rfl) (.tmp 41) (.tmp 45) 26 (by rfl) W1.heap.size 3 i0 (.int .i64 0) 1 8 ints_under hi hz0 hz1 hz2 (by rfl) (by decide) u12 k (numCells (fun k => (st.P k).hi) k) (by rfl) (owns_later hownV.out (by repeat (first | (with_reducible exact Below.refl _ _) | (with_reducible assumption) | (with_reducible refine Below.drew ?_) | ((with_reducible refine below_alloc ?_ ?_ _); (· (first | exact Nat.le_refl _ | omega | (dsimp only; omega) | (simp only [World.size_alloc, World.size_drew, World.heap_drewN]; omega) | (simp; omega)))) | ((with_reducible refine below_set ?_ ?_ _); (· (first | exact Nat.le_refl _ | omega | (dsimp only; omega) | (simp only [World.size_alloc, World.size_drew, World.heap_drewN]; omega) | (simp; omega)))) | ((with_reducible refine below_via (by with_reducible assumption) ?_ ?_); (· (first | exact Nat.le_refl _ | omega | (dsimp only; omega) | (simp only [World.size_alloc, World.size_drew, World.heap_drewN]; omega) | (simp; omega))))))) ⟨wa.heap.size, 0, none⟩ 1 1 [.int .i64 (st.P k).hi] (by rfl) rfl (fun jj uu hjj => new_cells (w := wa) (t := 3) (cs := [.int .i64 (st.P k).hi]) jj uu hjj) (by intro u hu; simp only [List.mem_cons, List.not_mem_nil, or_false] at hu; subst hu; rfl) (by omega) (by unfold maxLen; omega) (by omega) (by (first | omega | (simp only [World.size_alloc, World.size_drew]; omega) | (simp; done) | (simp; omega))) (wa.heap.size + 1) (by simp) ?_; intro g6 cap6 w6 hown6 hgr6 hat6 hlt6; have hz6 := hgr6.size; (try simp only [World.size_alloc] at hz6); have HU6 := Lib.hid ((owns_later hownU.out (by repeat (first | (with_reducible exact Below.refl _ _) | (with_reducible assumption) | (with_reducible refine Below.drew ?_) | ((with_reducible refine below_alloc ?_ ?_ _); (· (first | exact Nat.le_refl _ | omega | (dsimp only; omega) | (simp only [World.size_alloc, World.size_drew, World.heap_drewN]; omega) | (simp; omega)))) | ((with_reducible refine below_set ?_ ?_ _); (· (first | exact Nat.le_refl _ | omega | (dsimp only; omega) | (simp only [World.size_alloc, World.size_drew, World.heap_drewN]; omega) | (simp; omega)))) | ((with_reducible refine below_via (by with_reducible assumption) ?_ ?_); (· (first | exact Nat.le_refl _ | omega | (dsimp only; omega) | (simp only [World.size_alloc, World.size_drew, World.heap_drewN]; omega) | (simp; omega))))))).kept hgr6 hdis.out)) | (refine step_append_lies _ (by rfl) (.tmp 47) (.tmp 55) 26 (by rfl) W1.heap.size 3 i0 (.int .i64 0) 1 8 ints_under hi hz0 hz1 hz2 (by rfl) (by decide) u13 k (numCells (fun k => (st.P k).hiOf (X k)) k) (by rfl) (owns_later HU6.out (by repeat (first | (with_reducible exact Below.refl _ _) | (with_reducible assumption) | (with_reducible refine Below.drew ?_) | ((with_reducible refine below_alloc ?_ ?_ _); (· (first | exact Nat.le_refl _ | omega | (dsimp only; omega) | (simp only [World.size_alloc, World.size_drew, World.heap_drewN]; omega) | (simp; omega)))) | ((with_reducible refine below_set ?_ ?_ _); (· (first | exact Nat.le_refl _ | omega | (dsimp only; omega) | (simp only [World.size_alloc, World.size_drew, World.heap_drewN]; omega) | (simp; omega)))) | ((with_reducible refine below_via (by with_reducible assumption) ?_ ?_); (· (first | exact Nat.le_refl _ | omega | (dsimp only; omega) | (simp only [World.size_alloc, World.size_drew, World.heap_drewN]; omega) | (simp; omega))))))) ⟨wb.heap.size, 0, none⟩ 1 1 [.int .i64 ((st.P k).hiOf (X k))] (by rfl) rfl (fun jj uu hjj => new_cells (w := wb) (t := 3) (cs := [.int .i64 ((st.P k).hiOf (X k))]) jj uu hjj) (by intro u hu; simp only [List.mem_cons, List.not_mem_nil, or_false] at hu; subst hu; rfl) (by omega) (by unfold maxLen; omega) (by omega) (by (first | omega | (simp only [World.size_alloc, World.size_drew]; omega) | (simp; done) | (simp; omega))) (wb.heap.size + 1) (by simp) ?_; intro g7 cap7 w7 hown7 hgr7 hat7 hlt7) | fail)
        have hne : ∀ g, u13.ownBlock = some g → g ≠ g6 := fun g hg e => by
          subst e
          have h1 := hvU g hg
          rcases hat6 with h | h
          · rcases hdis.out with h2 | h2
            · rw [hg] at h2; cases h2
            · exact h2 (hg.trans h.symm)
          · omega
        have HV7 : Hid (w7.ownsRow W1.heap.size 3 1 (.slice (some ⟨g6, 0, none⟩) (k + 1) cap6) (k + 1) (numCells (fun k => (st.P k).hi) (k + 1))) := Lib.hid (by
          rw [numCells_succ]
          exact (owns_later hown6 (by repeat (first | (with_reducible exact Below.refl _ _) | (with_reducible assumption) | (with_reducible refine Below.drew ?_) | ((with_reducible refine below_alloc ?_ ?_ _); (· (first | exact Nat.le_refl _ | omega | (dsimp only; omega) | (simp only [World.size_alloc, World.size_drew, World.heap_drewN]; omega) | (simp; omega)))) | ((with_reducible refine below_set ?_ ?_ _); (· (first | exact Nat.le_refl _ | omega | (dsimp only; omega) | (simp only [World.size_alloc, World.size_drew, World.heap_drewN]; omega) | (simp; omega)))) | ((with_reducible refine below_via (by with_reducible assumption) ?_ ?_); (· (first | exact Nat.le_refl _ | omega | (dsimp only; omega) | (simp only [World.size_alloc, World.size_drew, World.heap_drewN]; omega) | (simp; omega))))))).kept hgr7 (.inr (fun e => hne g6 e.symm rfl)))
        have HU7 : Hid (w7.ownsRow W1.heap.size 3 1 (.slice (some ⟨g7, 0, none⟩) (k + 1) cap7) (k + 1) (numCells (fun k => (st.P k).hiOf (X k)) (k + 1))) := Lib.hid (by
          rw [numCells_succ]
          exact hown7)
        have HD7 : Hid ((Value.slice (some ⟨g7, 0, none⟩) (k + 1) cap7).ownBlock = none ∨ (Value.slice (some ⟨g7, 0, none⟩) (k + 1) cap7).ownBlock ≠ (Value.slice (some ⟨g6, 0, none⟩) (k + 1) cap6).ownBlock) := Lib.hid (.inr (fun e => by
          injection e with e
          rcases hat7 with h | h
          · exact hne g7 h e
          · dsimp only at e; omega))
        have HW6 : Below W1.heap.size W1 w6 := Below.grown (hbw.out.trans (show Below W1.heap.size wr _ from (by repeat (first | (with_reducible exact Below.refl _ _) | (with_reducible assumption) | (with_reducible refine Below.drew ?_) | ((with_reducible refine below_alloc ?_ ?_ _); (· (first | exact Nat.le_refl _ | omega | (dsimp only; omega) | (simp only [World.size_alloc, World.size_drew, World.heap_drewN]; omega) | (simp; omega)))) | ((with_reducible refine below_set ?_ ?_ _); (· (first | exact Nat.le_refl _ | omega | (dsimp only; omega) | (simp only [World.size_alloc, World.size_drew, World.heap_drewN]; omega) | (simp; omega)))) | ((with_reducible refine below_via (by with_reducible assumption) ?_ ?_); (· (first | exact Nat.le_refl _ | omega | (dsimp only; omega) | (simp only [World.size_alloc, World.size_drew, World.heap_drewN]; omega) | (simp; omega)))))))) hgr6 (by (first | omega | (simp only [World.size_alloc, World.size_drew]; omega) | (simp; done) | (simp; omega))) (fun k hk => (hvV k hk).1)
        have HW7 : Hid (Below W1.heap.size W1 w7) := Lib.hid (Below.grown (HW6.trans (show Below W1.heap.size w6 _ from (by repeat (first | (with_reducible exact Below.refl _ _) | (with_reducible assumption) | (with_reducible refine Below.drew ?_) | ((with_reducible refine below_alloc ?_ ?_ _); (· (first | exact Nat.le_refl _ | omega | (dsimp only; omega) | (simp only [World.size_alloc, World.size_drew, World.heap_drewN]; omega) | (simp; omega)))) | ((with_reducible refine below_set ?_ ?_ _); (· (first | exact Nat.le_refl _ | omega | (dsimp only; omega) | (simp only [World.size_alloc, World.size_drew, World.heap_drewN]; omega) | (simp; omega)))) | ((with_reducible refine below_via (by with_reducible assumption) ?_ ?_); (· (first | exact Nat.le_refl _ | omega | (dsimp only; omega) | (simp only [World.size_alloc, World.size_drew, World.heap_drewN]; omega) | (simp; omega)))))))) hgr7 (by (first | omega | (simp only [World.size_alloc, World.size_drew]; omega) | (simp; done) | (simp; omega))) (fun k hk => (hvU k hk).1))
        clear hown6 hown7 hgr6 hgr7 hat6 hat7 hba hbb c0 c1 c2 c3 bx cf HW6 hne
        go_wp2_with fail
        go_roundw
        case rel => exact ⟨k + 1, by omega, by go_num, HV7, HU7, HD7, HW7⟩
        case measure => simp [intOf]; omega
      · obtain rfl : k = st.n := by omega
        have hge : ¬ (st.n : Int) < (st.n : Int) := by omega
        obtain ⟨A, c, rfl, hr, hcl, _⟩ := intOwn_of hownV.out
        obtain ⟨A2, c2, rfl, hr2, hcl2, _⟩ := intOwn_of hownU.out
        have HR := Lib.hid hr
        have HR2 := Lib.hid hr2
        have HBW : Hid (Below W.heap.size W wr) := Lib.hid (HB1.out.trans ((HB.out.trans (hbw.out.mono (by omega))).mono (by omega)))
        clear hr hr2
        go_wp2_with fail
        go_ret3
        exact ⟨HBW.out, .inl ⟨H0.out, A, c, A2, c2, rfl, HR.out, HR2.out, hcl, hcl2⟩⟩
  · have hnb : (st.askErr ln X != 0) = true := by simpa using h0
    have H0 := Lib.hid h0
    have hs1 := hb1.size
    simp only [World.size_alloc] at hs1
    clear h0
    go_wp2_with fail
    go_ret3
    exact ⟨(by repeat (first | (with_reducible exact Below.refl _ _) | (with_reducible refine Below.drew ?_) | (with_reducible refine below_drewN ?_ _) | ((with_reducible refine below_alloc ?_ ?_ _); · (first | exact Nat.le_refl _ | omega | (simp; done) | (simp; omega) | (simp at *; omega))) | ((with_reducible refine below_set ?_ ?_ _); · (first | exact Nat.le_refl _ | omega | (simp; done) | (simp; omega) | (simp at *; omega))) | ((with_reducible refine below_via (by with_reducible assumption) ?_ ?_); · (first | exact Nat.le_refl _ | omega | (simp; done) | (simp; omega) | (simp at *; omega))))), .inr ⟨H0.out, rfl⟩⟩
end Go.Proofs.Ytegmomappbehcaa

set_option linter.unusedSimpArgs false
set_option linter.unusedVariables false
namespace Go.Proofs.Ytegmomappbehcaa
open Go.RowKit Go.Shelf

theorem posB_in (p : Pk) (x f g : Int) : posB p x f g = (inB f p.f p.hi && inB g 0 x && inB (f - g) 0 (p.s - x)) := by
  unfold posB inB
  rw [Bool.eq_iff_iff]
  simp only [Bool.and_eq_true, decide_eq_true_eq, Pk.can_iff]
  omega

set_option maxRecDepth 100000 in
set_option maxHeartbeats 4000000 in
theorem Possible_any (st : St) (B : Nat) (pA gA : Option Addr) (pc gc : Nat) (lA : Option Addr) (ln lc : Nat) (X : Nat → Int) (fA : Option Addr) (fn fc : Nat) (F : Nat → Int) (iA : Option Addr) (gn ic : Nat) (G : Nat → Int) (W : World) (hs : StRow W B st pA pc gA gc) (hl : IntRow W W.heap.size lA ln X) (hn : ln ≤ 1000)
    (hf : IntRow W W.heap.size fA fn F) (hg : IntRow W W.heap.size iA gn G) :
    Calls Try.prog 70 #[stV pA st.n pc gA st.m gc st.lots, .slice lA ln lc, .slice fA fn fc, .slice iA gn ic] W fun e W' => e = .returned (boV (st.possR ln X fn gn F G)) ∧ Below W.heap.size W W' := by
  have HS := Lib.hid hs; have hB := hs.lt; have HL := Lib.hid hl; clear hs hl
  have HF := Lib.hid hf
  have HG := Lib.hid hg
  clear hf hg
  go_enter Try.func70, Try.ntmps70
  go_wp2_with fail
  refine (asked_any st B pA gA pc gc lA ln lc X _ (HS.out.later (by repeat (first | (with_reducible exact Below.refl _ _) | (with_reducible refine Below.drew ?_) | (with_reducible refine below_drewN ?_ _) | ((with_reducible refine below_alloc ?_ ?_ _); · (first | exact Nat.le_refl _ | omega | (simp; done) | (simp; omega) | (simp at *; omega))) | ((with_reducible refine below_set ?_ ?_ _); · (first | exact Nat.le_refl _ | omega | (simp; done) | (simp; omega) | (simp at *; omega))) | ((with_reducible refine below_via (by with_reducible assumption) ?_ ?_); · (first | exact Nat.le_refl _ | omega | (simp; done) | (simp; omega) | (simp at *; omega)))))) (HL.out.later (by repeat (first | (with_reducible exact Below.refl _ _) | (with_reducible refine Below.drew ?_) | (with_reducible refine below_drewN ?_ _) | ((with_reducible refine below_alloc ?_ ?_ _); · (first | exact Nat.le_refl _ | omega | (simp; done) | (simp; omega) | (simp at *; omega))) | ((with_reducible refine below_set ?_ ?_ _); · (first | exact Nat.le_refl _ | omega | (simp; done) | (simp; omega) | (simp at *; omega))) | ((with_reducible refine below_via (by with_reducible assumption) ?_ ?_); · (first | exact Nat.le_refl _ | omega | (simp; done) | (simp; omega) | (simp at *; omega)))))) hn).mono ?_; rintro e w1 ⟨hb1, ⟨h0, db, rfl, hD, hdb⟩ | ⟨h0, p, rfl⟩⟩
  · have hs1 := hb1.size
    have HB1 := Lib.hid (show Below W.heap.size W w1 from (by repeat (first | (with_reducible exact Below.refl _ _) | (with_reducible refine Below.drew ?_) | (with_reducible refine below_drewN ?_ _) | ((with_reducible refine below_alloc ?_ ?_ _); · (first | exact Nat.le_refl _ | omega | (simp; done) | (simp; omega) | (simp at *; omega))) | ((with_reducible refine below_set ?_ ?_ _); · (first | exact Nat.le_refl _ | omega | (simp; done) | (simp; omega) | (simp at *; omega))) | ((with_reducible refine below_via (by with_reducible assumption) ?_ ?_); · (first | exact Nat.le_refl _ | omega | (simp; done) | (simp; omega) | (simp at *; omega))))))
    have HST := Lib.hid (St.askErr_ok h0).1
    have HD := Lib.hid hD
    have HX := Lib.hid (ask_rng h0)
    have HR0 : Hid (st.possR ln X fn gn F G = if fn ≠ st.n ∨ gn ≠ st.n then (false, 3) else (allN (fun k => posB (st.P k) (X k) (F k) (G k)) st.n, 0)) := Lib.hid (by unfold St.possR; rw [if_neg (by simp [h0])])
    obtain rfl : ln = st.n := (St.askErr_ok h0).2.2
    have a0 : w1.cell? ⟨W.heap.size, 0, none⟩ = some (.slice pA st.n pc) := cell_below_of hb1 (by (repeat' refine And.intro ?_ ?_) <;> (repeat (first | (with_reducible assumption) | (simp; done) | (with_reducible refine cell_drew_of ?_) | (with_reducible refine cell_drewN_of ?_) | (with_reducible refine cell_below_of (by with_reducible assumption) ?_) | ((with_reducible refine cell_new_of ?_ ?_) <;> (first | (with_reducible rfl) | (simp; done))) | ((with_reducible refine fro_new_of ?_) <;> (first | (with_reducible rfl) | (simp; done))) | (with_reducible refine cell_alloc_of _ ?_) | (with_reducible refine cell_set_of _ (by (first | exact Nat.le_refl _ | omega | (simp; done) | (simp; omega))) ?_) | (with_reducible refine fro_drew_of ?_) | (with_reducible refine fro_drewN_of ?_) | (with_reducible refine fro_below_of (by with_reducible assumption) (by (first | exact Nat.le_refl _ | omega | (simp; done) | (simp; omega))) ?_) | (with_reducible refine fro_alloc_of _ (by (first | exact Nat.le_refl _ | omega | (simp; done) | (simp; omega))) ?_) | (with_reducible refine fro_set_of _ ?_))))
    have n4 := HST.out.n4
    have HXB := Lib.hid (fun k (hk : k < st.n) => bagOf_at (X := X) hk (show k < 4 by omega))
    simp only [World.size_alloc] at hdb hs1
    obtain ⟨pA', pc', gA', gc', hpr, _, q0, _, _, _⟩ := hD.rows
    have HPR := Lib.hid hpr
    have hdl := hD.lt
    generalize bagOf X st.n = x at *
    clear hb1 hD h0 hpr
    by_cases hfn : fn = st.n
    · by_cases hgn : gn = st.n
      · have HR : Hid (st.possR st.n X fn gn F G = (allN (fun k => posB (st.P k) (X k) (F k) (G k)) st.n, 0)) := Lib.hid (by rw [HR0.out, if_neg (by simp [hfn, hgn])])
        subst hfn
        subst hgn
        have hq : ((st.n : Int) != (st.n : Int)) = false := by simp
        go_wp2_with fail
        refine wp_world (fun W2 => BagAt W2 w1.heap.size x ∧ W2.cell? ⟨db, 0, none⟩ = some (.slice pA' st.n pc') ∧ Below w1.heap.size w1 W2 ∧ w1.heap.size < W2.heap.size) ⟨(by (repeat' refine And.intro ?_ ?_) <;> (repeat (first | (with_reducible assumption) | (simp; done) | (with_reducible refine cell_drew_of ?_) | (with_reducible refine cell_drewN_of ?_) | (with_reducible refine cell_below_of (by with_reducible assumption) ?_) | ((with_reducible refine cell_new_of ?_ ?_) <;> (first | (with_reducible rfl) | (simp; done))) | ((with_reducible refine fro_new_of ?_) <;> (first | (with_reducible rfl) | (simp; done))) | (with_reducible refine cell_alloc_of _ ?_) | (with_reducible refine cell_set_of _ (by (first | exact Nat.le_refl _ | omega | (simp; done) | (simp; omega))) ?_) | (with_reducible refine fro_drew_of ?_) | (with_reducible refine fro_drewN_of ?_) | (with_reducible refine fro_below_of (by with_reducible assumption) (by (first | exact Nat.le_refl _ | omega | (simp; done) | (simp; omega))) ?_) | (with_reducible refine fro_alloc_of _ (by (first | exact Nat.le_refl _ | omega | (simp; done) | (simp; omega))) ?_) | (with_reducible refine fro_set_of _ ?_)))), cell_alloc_of _ q0, (by repeat (first | (with_reducible exact Below.refl _ _) | (with_reducible refine Below.drew ?_) | (with_reducible refine below_drewN ?_ _) | ((with_reducible refine below_alloc ?_ ?_ _); · (first | exact Nat.le_refl _ | omega | (simp; done) | (simp; omega) | (simp at *; omega))) | ((with_reducible refine below_set ?_ ?_ _); · (first | exact Nat.le_refl _ | omega | (simp; done) | (simp; omega) | (simp at *; omega))) | ((with_reducible refine below_via (by with_reducible assumption) ?_ ?_); · (first | exact Nat.le_refl _ | omega | (simp; done) | (simp; omega) | (simp at *; omega))))), by simp⟩ ?_
        rintro W2 ⟨hbag, _, hb2, hs2⟩
        have HBG := Lib.hid hbag
        have HB2 := Lib.hid hb2
        clear hbag hb2 q0 a0
        go_loopw [47] (fun i wr => ∃ k : Nat, k ≤ st.n ∧ i = .int .i64 k ∧ Hid (∀ j, j < k → posB (st.P j) (X j) (F j) (G j) = true) ∧ Hid (Below W2.heap.size W2 wr)) (fun i _ => st.n - (intOf i).toNat)
        case atStart => exact ⟨0, by omega, rfl, Lib.hid (fun j hj => absurd hj (by omega)), Lib.hid (Below.refl _ _)⟩
        case round =>
          obtain ⟨k, hk, rfl, hall, hbw⟩ := hrel
          have hsw := hbw.out.size
          have HBW := Lib.hid ((HB1.out.trans (HB2.out.mono (by omega))).trans (hbw.out.mono (by omega)))
          have hsW := HBW.out.size
          by_cases hlt : k < st.n
          · obtain ⟨b, o, rfl, hbl, c0, c1, c2, c3⟩ := (HPR.out.below ((Below.refl B w1).trans ((HB2.out.mono (by omega)).trans (hbw.out.mono (by omega))))) k hlt
            obtain ⟨qb, qo, rfl, hqb, r0⟩ := (HF.out.below HBW.out) k hlt
            obtain ⟨ib, io, rfl, hib, i0⟩ := (HG.out.below HBW.out) k hlt
            have hk0 : (0 : Int) ≤ (k : Int) := by omega
            have hkn : (k : Int) < (st.n : Int) := by omega
            have hk4 : (k : Int) < 4 := by omega
            have hrng := HST.out.pk k hlt
            have HRG := Lib.hid hrng
            have hx := HX.out k hlt
            have bg := ((HBG.out.same (hbw.out.block _ hs2)).cell k (by omega)).1
            rw [HXB.out k hlt] at bg
            have HPOS := Lib.hid (posB_in (st.P k) (X k) (F k) (G k))
            unfold Pk.rng at hrng
            have ew0 : IntKind.i64.wrap ((st.P k).s - X k) = (st.P k).s - X k := IntWalk.i64_in _ (by omega)
            clear hrng
            go_upto_region 9 with fail
            refine wp_world (fun W5 => (W5.cell? ⟨wr.heap.size, 0, none⟩ = some (.int .i64 (st.P k).s) ∧ W5.cell? ⟨wr.heap.size, 1, none⟩ = some (.int .i64 (st.P k).w) ∧ W5.cell? ⟨wr.heap.size, 2, none⟩ = some (.int .i64 (st.P k).o) ∧ W5.cell? ⟨wr.heap.size, 3, none⟩ = some (.int .i64 (st.P k).f) ∧ W5.cell? ⟨qb, qo + k, none⟩ = some (.int .i64 (F k)) ∧ W5.cell? ⟨ib, io + k, none⟩ = some (.int .i64 (G k)) ∧ W5.cell? ⟨w1.heap.size, k, none⟩ = some (.int .i64 (X k))) ∧ Below wr.heap.size wr W5) ⟨(by (repeat' refine And.intro ?_ ?_) <;> (repeat (first | (with_reducible assumption) | (simp; done) | (with_reducible refine cell_drew_of ?_) | (with_reducible refine cell_drewN_of ?_) | (with_reducible refine cell_below_of (by with_reducible assumption) ?_) | ((with_reducible refine cell_new_of ?_ ?_) <;> (first | (with_reducible rfl) | (simp; done))) | ((with_reducible refine fro_new_of ?_) <;> (first | (with_reducible rfl) | (simp; done))) | (with_reducible refine cell_alloc_of _ ?_) | (with_reducible refine cell_set_of _ (by (first | exact Nat.le_refl _ | omega | (simp; done) | (simp; omega))) ?_) | (with_reducible refine fro_drew_of ?_) | (with_reducible refine fro_drewN_of ?_) | (with_reducible refine fro_below_of (by with_reducible assumption) (by (first | exact Nat.le_refl _ | omega | (simp; done) | (simp; omega))) ?_) | (with_reducible refine fro_alloc_of _ (by (first | exact Nat.le_refl _ | omega | (simp; done) | (simp; omega))) ?_) | (with_reducible refine fro_set_of _ ?_)))), (by repeat (first | (with_reducible exact Below.refl _ _) | (with_reducible refine Below.drew ?_) | (with_reducible refine below_drewN ?_ _) | ((with_reducible refine below_alloc ?_ ?_ _); · (first | exact Nat.le_refl _ | omega | (simp; done) | (simp; omega) | (simp at *; omega))) | ((with_reducible refine below_set ?_ ?_ _); · (first | exact Nat.le_refl _ | omega | (simp; done) | (simp; omega) | (simp at *; omega))) | ((with_reducible refine below_via (by with_reducible assumption) ?_ ?_); · (first | exact Nat.le_refl _ | omega | (simp; done) | (simp; omega) | (simp at *; omega)))))⟩ ?_
            rintro W5 ⟨⟨y0, y1, y2, y3, y4, y5, y6⟩, hb5⟩
            have HW5 := Lib.hid (HBW.out.trans (hb5.mono hsW))
            have HB5 := Lib.hid (hbw.out.trans (hb5.mono hsw))
            clear hb5 c0 c1 c2 c3 r0 i0 bg
            cases j1 : inB (F k) (st.P k).f (min (st.P k).w ((st.P k).s - (st.P k).o + (st.P k).f)) with
            | false =>
              have HV : Hid (st.possR st.n X st.n st.n F G = (false, 0)) := Lib.hid (by rw [HR.out, allN_false (k := k) hlt (by rw [HPOS.out, show inB (F k) (st.P k).f (st.P k).hi = false from j1]; rfl)])
              refine region_qbw (by kernel_rfl) (by kernel_rfl) ?_
              have x0 := cell_regrown y0
              have x1 := cell_regrown y1
              have x2 := cell_regrown y2
              have x3 := cell_regrown y3
              have x4 := cell_regrown y4
              have x5 := cell_regrown y5
              have x6 := cell_regrown y6
              clear y0 y1 y2 y3 y4 y5 y6
              repeat (first | go_big_quiet_step (first | (go_at_call 99; exact Calls.regrown_of (pspan_any _ _ _ _ _ HRG.out.1 HRG.out.2.2.1 HRG.out.2.2.2)) | (go_at_call 77; exact Calls.regrown_of (in_bel _ _ _ _))) | quiet_step (first | (go_at_call 99; exact Calls.regrown_of (pspan_any _ _ _ _ _ HRG.out.1 HRG.out.2.2.1 HRG.out.2.2.2)) | (go_at_call 77; exact Calls.regrown_of (in_bel _ _ _ _))))
              refine wpQuiet_nil ?_; intro wq hbq
              clear x0 x1 x2 x3 x4 x5 x6
              have HWQ := Lib.hid (HW5.out.trans (hbq.mono HW5.out.size))
              have hbwq := Lib.hid (HB5.out.trans (hbq.mono HB5.out.size))
              clear hbq
              rw [j1]
              go_wp2_with fail
              go_ret2
              exact ⟨by rw [HV.out]; rfl, HWQ.out⟩
            | true =>
              cases j2 : inB (G k) 0 (X k) with
              | false =>
                have HV : Hid (st.possR st.n X st.n st.n F G = (false, 0)) := Lib.hid (by rw [HR.out, allN_false (k := k) hlt (by rw [HPOS.out, j2, Bool.and_false]; rfl)])
                refine region_qbw (by kernel_rfl) (by kernel_rfl) ?_
                have x0 := cell_regrown y0
                have x1 := cell_regrown y1
                have x2 := cell_regrown y2
                have x3 := cell_regrown y3
                have x4 := cell_regrown y4
                have x5 := cell_regrown y5
                have x6 := cell_regrown y6
                clear y0 y1 y2 y3 y4 y5 y6
                repeat (first | go_big_quiet_step (first | (go_at_call 99; exact Calls.regrown_of (pspan_any _ _ _ _ _ HRG.out.1 HRG.out.2.2.1 HRG.out.2.2.2)) | (go_at_call 77; exact Calls.regrown_of (in_bel _ _ _ _))) | quiet_step (first | (go_at_call 99; exact Calls.regrown_of (pspan_any _ _ _ _ _ HRG.out.1 HRG.out.2.2.1 HRG.out.2.2.2)) | (go_at_call 77; exact Calls.regrown_of (in_bel _ _ _ _))))
                refine wpQuiet_nil ?_; intro wq hbq
                clear x0 x1 x2 x3 x4 x5 x6
                have HWQ := Lib.hid (HW5.out.trans (hbq.mono HW5.out.size))
                have hbwq := Lib.hid (HB5.out.trans (hbq.mono HB5.out.size))
                clear hbq
                rw [j1]
                rw [j2]
                go_wp2_with fail
                go_ret2
                exact ⟨by rw [HV.out]; rfl, HWQ.out⟩
              | true =>
                have jf : (st.P k).f ≤ F k ∧ F k ≤ min (st.P k).w ((st.P k).s - (st.P k).o + (st.P k).f) := by simpa [inB] using j1
                have jg : 0 ≤ G k ∧ G k ≤ X k := by simpa [inB] using j2
                have hrg := HRG.out
                unfold Pk.rng at hrg
                have ew1 : IntKind.i64.wrap (F k - G k) = F k - G k := IntWalk.i64_in _ (by omega)
                clear jf jg hrg
                cases j3 : inB (F k - G k) 0 ((st.P k).s - X k) with
                | false =>
                  have HV : Hid (st.possR st.n X st.n st.n F G = (false, 0)) := Lib.hid (by rw [HR.out, allN_false (k := k) hlt (by rw [HPOS.out, j3, Bool.and_false])])
                  refine region_qbw (by kernel_rfl) (by kernel_rfl) ?_
                  have x0 := cell_regrown y0
                  have x1 := cell_regrown y1
                  have x2 := cell_regrown y2
                  have x3 := cell_regrown y3
                  have x4 := cell_regrown y4
                  have x5 := cell_regrown y5
                  have x6 := cell_regrown y6
                  clear y0 y1 y2 y3 y4 y5 y6
                  repeat (first | go_big_quiet_step (first | (go_at_call 99; exact Calls.regrown_of (pspan_any _ _ _ _ _ HRG.out.1 HRG.out.2.2.1 HRG.out.2.2.2)) | (go_at_call 77; exact Calls.regrown_of (in_bel _ _ _ _))) | quiet_step (first | (go_at_call 99; exact Calls.regrown_of (pspan_any _ _ _ _ _ HRG.out.1 HRG.out.2.2.1 HRG.out.2.2.2)) | (go_at_call 77; exact Calls.regrown_of (in_bel _ _ _ _))))
                  refine wpQuiet_nil ?_; intro wq hbq
                  clear x0 x1 x2 x3 x4 x5 x6
                  have HWQ := Lib.hid (HW5.out.trans (hbq.mono HW5.out.size))
                  have hbwq := Lib.hid (HB5.out.trans (hbq.mono HB5.out.size))
                  clear hbq
                  rw [j1, j2]
                  rw [j3]
                  go_wp2_with fail
                  go_ret2
                  exact ⟨by rw [HV.out]; rfl, HWQ.out⟩
                | true =>
                  have HP : Hid (posB (st.P k) (X k) (F k) (G k) = true) := Lib.hid (by rw [HPOS.out, j2, j3, show inB (F k) (st.P k).f (st.P k).hi = true from j1]; rfl)
                  refine region_qbw (by kernel_rfl) (by kernel_rfl) ?_
                  have x0 := cell_regrown y0
                  have x1 := cell_regrown y1
                  have x2 := cell_regrown y2
                  have x3 := cell_regrown y3
                  have x4 := cell_regrown y4
                  have x5 := cell_regrown y5
                  have x6 := cell_regrown y6
                  clear y0 y1 y2 y3 y4 y5 y6
                  repeat (first | go_big_quiet_step (first | (go_at_call 99; exact Calls.regrown_of (pspan_any _ _ _ _ _ HRG.out.1 HRG.out.2.2.1 HRG.out.2.2.2)) | (go_at_call 77; exact Calls.regrown_of (in_bel _ _ _ _))) | quiet_step (first | (go_at_call 99; exact Calls.regrown_of (pspan_any _ _ _ _ _ HRG.out.1 HRG.out.2.2.1 HRG.out.2.2.2)) | (go_at_call 77; exact Calls.regrown_of (in_bel _ _ _ _))))
                  refine wpQuiet_nil ?_; intro wq hbq
                  clear x0 x1 x2 x3 x4 x5 x6
                  have HWQ := Lib.hid (HW5.out.trans (hbq.mono HW5.out.size))
                  have hbwq := Lib.hid (HB5.out.trans (hbq.mono HB5.out.size))
                  clear hbq
                  rw [j1, j2, j3]
                  go_wp2_with fail
                  go_roundw
                  case rel => exact ⟨k + 1, by omega, by go_num, Lib.hid (fun j hj => by rcases Nat.lt_or_ge j k with h | h; exact hall.out j h; rw [show j = k from by omega]; exact HP.out), hbwq⟩
                  case measure => simp [intOf]; omega
          · have hk' : k = st.n := by omega
            have hge : ¬ (k : Int) < (st.n : Int) := by omega
            have HV : Hid (st.possR st.n X st.n st.n F G = (true, 0)) := Lib.hid (by rw [HR.out, allN_iff.2 (fun j hj => hall.out j (by omega))])
            go_wp2_with fail
            go_ret2
            exact ⟨by rw [HV.out]; rfl, HBW.out⟩
      · have HR : Hid (st.possR st.n X fn gn F G = (false, 3)) := Lib.hid (by rw [HR0.out, if_pos (.inr hgn)])
        have hb1 : ((fn : Int) != (st.n : Int)) = false := by simp [hfn]
        have hb2 : ((gn : Int) != (st.n : Int)) = true := by rw [bne_iff_ne]; omega
        have hbo := HB1.out
        clear hfn hgn
        go_wp2_with fail
        go_ret2
        exact ⟨by rw [HR.out]; rfl, (by repeat (first | (with_reducible exact Below.refl _ _) | (with_reducible refine Below.drew ?_) | (with_reducible refine below_drewN ?_ _) | ((with_reducible refine below_alloc ?_ ?_ _); · (first | exact Nat.le_refl _ | omega | (simp; done) | (simp; omega) | (simp at *; omega))) | ((with_reducible refine below_set ?_ ?_ _); · (first | exact Nat.le_refl _ | omega | (simp; done) | (simp; omega) | (simp at *; omega))) | ((with_reducible refine below_via (by with_reducible assumption) ?_ ?_); · (first | exact Nat.le_refl _ | omega | (simp; done) | (simp; omega) | (simp at *; omega)))))⟩
    · have HR : Hid (st.possR st.n X fn gn F G = (false, 3)) := Lib.hid (by rw [HR0.out, if_pos (.inl hfn)])
      have hb1 : ((fn : Int) != (st.n : Int)) = true := by rw [bne_iff_ne]; omega
      have hbo := HB1.out
      clear hfn
      go_wp2_with fail
      go_ret2
      exact ⟨by rw [HR.out]; rfl, (by repeat (first | (with_reducible exact Below.refl _ _) | (with_reducible refine Below.drew ?_) | (with_reducible refine below_drewN ?_ _) | ((with_reducible refine below_alloc ?_ ?_ _); · (first | exact Nat.le_refl _ | omega | (simp; done) | (simp; omega) | (simp at *; omega))) | ((with_reducible refine below_set ?_ ?_ _); · (first | exact Nat.le_refl _ | omega | (simp; done) | (simp; omega) | (simp at *; omega))) | ((with_reducible refine below_via (by with_reducible assumption) ?_ ?_); · (first | exact Nat.le_refl _ | omega | (simp; done) | (simp; omega) | (simp at *; omega)))))⟩
  · have hnb : (st.askErr ln X != 0) = true := by simpa using h0
    have HR : Hid (st.possR ln X fn gn F G = (false, st.askErr ln X)) := Lib.hid (by unfold St.possR; rw [if_pos (by simpa using h0)])
    have hs1 := hb1.size
    simp only [World.size_alloc] at hs1
    clear h0
    go_wp2_with fail
    go_ret2
    exact ⟨by rw [HR.out]; rfl, (by repeat (first | (with_reducible exact Below.refl _ _) | (with_reducible refine Below.drew ?_) | (with_reducible refine below_drewN ?_ _) | ((with_reducible refine below_alloc ?_ ?_ _); · (first | exact Nat.le_refl _ | omega | (simp; done) | (simp; omega) | (simp at *; omega))) | ((with_reducible refine below_set ?_ ?_ _); · (first | exact Nat.le_refl _ | omega | (simp; done) | (simp; omega) | (simp at *; omega))) | ((with_reducible refine below_via (by with_reducible assumption) ?_ ?_); · (first | exact Nat.le_refl _ | omega | (simp; done) | (simp; omega) | (simp at *; omega)))))⟩
end Go.Proofs.Ytegmomappbehcaa

set_option linter.unusedSimpArgs false
set_option linter.unusedVariables false
namespace Go.Proofs.Ytegmomappbehcaa
open Go.RowKit Go.Shelf

theorem StRow.later2 {w w' : World} {st : St} {pA : Option Addr} {pc : Nat} {gA : Option Addr} {gc : Nat} (h : StRow w w.heap.size st pA pc gA gc) (hb : Below w.heap.size w w') : StRow w' w'.heap.size st pA pc gA gc :=
  ⟨Nat.le_refl _, (h.p.below hb).mono hb.size, (h.g.below hb).mono hb.size, h.n, h.m, h.pc, h.gc⟩
theorem StRow.of_own {w : World} {lo : Nat} {st : St} {pA : Option Addr} {pc : Nat} {gA : Option Addr} {gc : Nat} (hp : OwnPk w lo pA st.n st.P) (hg : OwnGd w lo gA st.m st.G) (hn : st.n ≤ 1000) (hm : st.m ≤ 1000) (h1 : st.n ≤ pc) (h2 : st.m ≤ gc) : StRow w w.heap.size st pA pc gA gc :=
  ⟨Nat.le_refl _, hp.row, hg.row, hn, hm, h1, h2⟩
/-- the three stores of a law, and its list and the copy of it -/
structure LawAt (w : World) (st : St) (b0 b1 b2 : Nat) (pA0 gA0 pA1 gA1 pA2 gA2 : Option Addr) (pc0 gc0 pc1 gc1 pc2 gc2 : Nat) : Prop where
  s0 : StAt w b0 pA0 st.n pc0 gA0 st.m gc0 st.lots
  s1 : StAt w b1 pA1 st.n pc1 gA1 st.m gc1 st.lots
  s2 : StAt w b2 pA2 st.n pc2 gA2 st.m gc2 st.lots
  r0 : StRow w w.heap.size st pA0 pc0 gA0 gc0
  r1 : StRow w w.heap.size st pA1 pc1 gA1 gc1
  r2 : StRow w w.heap.size st pA2 pc2 gA2 gc2
theorem LawAt.later {w w' : World} {st : St} {b0 b1 b2 : Nat} {pA0 gA0 pA1 gA1 pA2 gA2 : Option Addr} {pc0 gc0 pc1 gc1 pc2 gc2 : Nat} (h : LawAt w st b0 b1 b2 pA0 gA0 pA1 gA1 pA2 gA2 pc0 gc0 pc1 gc1 pc2 gc2) (hb : Below w.heap.size w w') : LawAt w' st b0 b1 b2 pA0 gA0 pA1 gA1 pA2 gA2 pc0 gc0 pc1 gc1 pc2 gc2 :=
  ⟨h.s0.later hb, h.s1.later hb, h.s2.later hb, h.r0.later2 hb, h.r1.later2 hb, h.r2.later2 hb⟩
theorem StRow.up {w : World} {B : Nat} {st : St} {pA : Option Addr} {pc : Nat} {gA : Option Addr} {gc : Nat} (h : StRow w B st pA pc gA gc) : StRow w w.heap.size st pA pc gA gc :=
  ⟨Nat.le_refl _, h.p.mono h.lt, h.g.mono h.lt, h.n, h.m, h.pc, h.gc⟩
theorem cell_set_same {w : World} {p : Addr} {u v : Value} (h : w.cell? p = some v) : (w.setCell p u).cell? p = some u := World.cell?_setCell_same' _ _ _ (by rw [h]; rfl)
theorem cell_set_is {w : World} {p : Addr} {u : Value} (h : (w.cell? p).isSome = true) : (w.setCell p u).cell? p = some u := World.cell?_setCell_same' _ _ _ h
theorem has_of {w : World} {a : Addr} {v : Value} (h : w.cell? a = some v) : (w.cell? a).isSome = true := by rw [h]; rfl
theorem has_set {w : World} {p a : Addr} {u : Value} (h : (w.cell? a).isSome = true) : ((w.setCell p u).cell? a).isSome = true := by
  by_cases e : p = a
  · subst e
    rw [World.cell?_setCell_same' _ _ _ h]; rfl
  · rw [World.cell?_setCell_other _ _ _ _ (by first | exact e | exact fun h => e h.symm)]; exact h
theorem has_alloc {w : World} {o : Obj} {a : Addr} (h : (w.cell? a).isSome = true) : ((w.alloc o).cell? a).isSome = true := by
  obtain ⟨v, hv⟩ := Option.isSome_iff_exists.1 h
  exact has_of (cell_alloc_of o hv)
theorem has_new {w : World} {cs : Array Value} {t : TypeId} {n i : Nat} (hn : n = w.heap.size) (hi : i < cs.size) : ((w.alloc (.cells cs t)).cell? ⟨n, i, none⟩).isSome = true :=
  has_of (cell_new_of hn (Array.getElem?_eq_getElem hi))
theorem cell_set_off {w : World} {b i j : Nat} {u v : Value} (hne : i ≠ j) (h : w.cell? ⟨b, i, none⟩ = some v) : (w.setCell ⟨b, j, none⟩ u).cell? ⟨b, i, none⟩ = some v := by
  rw [World.cell?_setCell_other _ _ _ _ (by intro e; injection e with _ e _; omega)]; exact h
theorem alln_int (X : Nat → Int) (n : Nat) : allN (fun k => decide (X k = X k)) n = true := allN_iff.2 (fun k _ => by simp)
theorem alln_sp (X : Nat → Int × Int) (n : Nat) : allN (fun k => decide (X k = X k)) n = true := allN_iff.2 (fun k _ => by simp)

theorem setCell_os (w : World) (a : Addr) (v : Value) : (w.setCell a v).os = w.os := rfl
theorem setCell_tape (w : World) (a : Addr) (v : Value) : (w.setCell a v).tape = w.tape := rfl
theorem setCell_output (w : World) (a : Addr) (v : Value) : (w.setCell a v).output = w.output := rfl
theorem alloc_os (w : World) (o : Obj) : (w.alloc o).os = w.os := rfl
theorem alloc_tape (w : World) (o : Obj) : (w.alloc o).tape = w.tape := rfl
theorem alloc_output (w : World) (o : Obj) : (w.alloc o).output = w.output := rfl
theorem setCell_size (w : World) (a : Addr) (v : Value) : (w.setCell a v).heap.size = w.heap.size := by simp [World.setCell]


/-- where a law stands behind 'own, mine, x := Own(s), Copy(l), theirs(s)', in whatever order the variables were laid -/
theorem law_close {st : St} {B ln : Nat} {pA gA lA pA1 gA1 pA2 gA2 mA : Option Addr} {pc gc pc1 gc1 pc2 gc2 lop lom lot b1 b2 : Nat} {X : Nat → Int} {W w1 wp wm wt wX : World}
    (HS : StRow W B st pA pc gA gc) (HL : IntRow W W.heap.size lA ln X) (HB1 : Below W.heap.size W w1) (h0 : W.heap.size < w1.heap.size) (hA : w1.cell? ⟨W.heap.size, 0, none⟩ = some (.slice pA st.n pc) ∧ w1.cell? ⟨W.heap.size, 1, none⟩ = some (.slice gA st.m gc) ∧ w1.cell? ⟨W.heap.size, 2, none⟩ = some (.int .i64 st.lots))
    (hP : Below w1.heap.size w1 wp) (hM : Below wp.heap.size wp wm) (hT : Below wm.heap.size wm wt)
    (hop : OwnPk wp lop pA1 st.n st.P) (hog : OwnGd wp lop gA1 st.m st.G) (hpc1 : st.n ≤ pc1) (hgc1 : st.m ≤ gc1) (hom : OwnInt wm lom mA ln X) (htp : OwnPk wt lot pA2 st.n st.P) (htg : OwnGd wt lot gA2 st.m st.G) (hpc2 : st.n ≤ pc2) (hgc2 : st.m ≤ gc2)
    (hos : wX.os = wt.os) (htape : wX.tape = wt.tape) (hout : wX.output = wt.output) (hsz : wt.heap.size ≤ wX.heap.size)
    (hF : ∀ i, i < wt.heap.size → i ≠ b1 → i ≠ b2 → wX.heap[i]? = wt.heap[i]?)
    (k1 : w1.heap.size ≤ b1 ∧ (b1 < lop ∨ wp.heap.size ≤ b1) ∧ (b1 < lom ∨ wm.heap.size ≤ b1) ∧ (b1 < lot ∨ wt.heap.size ≤ b1)) (k2 : w1.heap.size ≤ b2 ∧ (b2 < lop ∨ wp.heap.size ≤ b2) ∧ (b2 < lom ∨ wm.heap.size ≤ b2) ∧ (b2 < lot ∨ wt.heap.size ≤ b2))
    (s1 : StAt wX b1 pA1 st.n pc1 gA1 st.m gc1 st.lots) (s2 : StAt wX b2 pA2 st.n pc2 gA2 st.m gc2 st.lots) :
    Hid (LawAt wX st W.heap.size b1 b2 pA gA pA1 gA1 pA2 gA2 pc gc pc1 gc1 pc2 gc2) ∧ Hid (IntRow wX wX.heap.size lA ln X) ∧ Hid (IntRow wX wX.heap.size mA ln X) ∧ Hid (Below W.heap.size W wX) := by
  have z1 := HB1.size
  have z2 := hP.size
  have z3 := hM.size
  have z4 := hT.size
  have eT : ∀ i, i < wm.heap.size → i ≠ b1 → i ≠ b2 → wX.heap[i]? = wm.heap[i]? := fun i hi h1 h2 => (hF i (by omega) h1 h2).trans (hT.block i hi)
  have eM : ∀ i, i < wp.heap.size → i ≠ b1 → i ≠ b2 → wX.heap[i]? = wp.heap[i]? := fun i hi h1 h2 => (eT i (by omega) h1 h2).trans (hM.block i hi)
  have eP : ∀ i, i < w1.heap.size → wX.heap[i]? = w1.heap[i]? := fun i hi => (eM i (by omega) (by omega) (by omega)).trans (hP.block i hi)
  have BX : Below W.heap.size W wX := HB1.trans ⟨hos.trans (hT.os.trans (hM.os.trans hP.os)), htape.trans (hT.tape.trans (hM.tape.trans hP.tape)), hout.trans (hT.output.trans (hM.output.trans hP.output)), by omega, fun i hi => eP i (by omega)⟩
  have hn := HS.n
  have hm := HS.m
  refine ⟨Lib.hid ⟨⟨cell_same (eP _ h0) hA.1, cell_same (eP _ h0) hA.2.1, cell_same (eP _ h0) hA.2.2⟩, s1, s2, (HS.later (BX.mono HS.lt)).up,
    StRow.of_own (hop.keep (fun b hl hb => eM b hb (by omega) (by omega))) (hog.keep (fun b hl hb => eM b hb (by omega) (by omega))) hn hm hpc1 hgc1,
    StRow.of_own (htp.keep (fun b hl hb => hF b hb (by omega) (by omega))) (htg.keep (fun b hl hb => hF b hb (by omega) (by omega))) hn hm hpc2 hgc2⟩,
    Lib.hid (HL.later BX), Lib.hid (hom.keep (fun b hl hb => eT b hb (by omega) (by omega))).row, Lib.hid BX⟩
end Go.Proofs.Ytegmomappbehcaa

set_option linter.unusedSimpArgs false
set_option linter.unusedVariables false
namespace Go.Proofs.Ytegmomappbehcaa
open Go.RowKit Go.Shelf

set_option maxRecDepth 100000 in
set_option maxHeartbeats 1000000 in
theorem total_any (A : Option Addr) (n c : Nat) (X : Nat → Int) (W : World) (hl : IntRow W W.heap.size A n X) (hn : n ≤ 1000) (hx : ∀ k, k < n → -100 ≤ X k ∧ X k ≤ 100) :
    Calls Try.prog 41 #[.slice A n c] W fun e W' => e = .returned (.int .i64 (sumN X n)) ∧ Below W.heap.size W W' := by
  have HL := Lib.hid hl
  have HBD : Hid (∀ k, k ≤ n → -100 * (k : Int) ≤ sumN X k ∧ sumN X k ≤ 100 * (k : Int)) := Lib.hid (fun k hk => sumN_bdh X k (fun j hj => hx j (by omega)))
  have HX := Lib.hid hx
  clear hl hx
  go_enter Try.func41, Try.ntmps41
  go_wp2_with fail
  go_loopw [3, 8] (fun v i wr => ∃ k : Nat, k ≤ n ∧ i = .int .i64 k ∧ v = .int .i64 (sumN X k) ∧ wr = W) (fun _ i _ => n - (intOf i).toNat)
  case atStart => exact ⟨0, Nat.zero_le _, rfl, rfl, rfl⟩
  case round =>
    obtain ⟨k, hk, rfl, rfl, rfl⟩ := hrel
    by_cases hlt : k < n
    · obtain ⟨b, o, rfl, hbl, c0⟩ := HL.out k hlt
      have hk0 : (0 : Int) ≤ (k : Int) := by omega
      have hkn : (k : Int) < (n : Int) := by omega
      have hb1 := HBD.out (k + 1) hlt
      have ew : IntKind.i64.wrap (sumN X k + X k) = sumN X (k + 1) := IntWalk.i64_in _ (by
        have : sumN X (k + 1) = sumN X k + X k := rfl
        omega)
      clear hb1
      go_wp2_with fail
      go_roundw
      case rel => exact ⟨k + 1, by omega, by go_num, rfl, trivial⟩
      case measure => simp [intOf]; omega
    · obtain rfl : k = n := by omega
      have hge : ¬ (k : Int) < (k : Int) := by omega
      go_wp2_with fail
      go_ret
      exact ⟨rfl, Below.refl _ _⟩

set_option maxRecDepth 100000 in
set_option maxHeartbeats 400000 in
theorem inspan_any (n lo hi : Int) (W : World) :
    Calls Try.prog 44 #[.int .i64 n, .agg #[.int .i64 lo, .int .i64 hi]] W fun e W' => e = .returned (.bool (decide (lo ≤ n) && decide (n ≤ hi))) ∧ Below W.heap.size W W' := by
  by_cases h1 : lo ≤ n
  · by_cases h2 : n ≤ hi
    · have HE := Lib.hid (show (decide (lo ≤ n) && decide (n ≤ hi)) = true by simp; omega)
      go_enter Try.func44, Try.ntmps44
      go_wp2_with fail
      go_ret
      exact ⟨by rw [HE.out]; rfl, (by repeat (first | (with_reducible exact Below.refl _ _) | (with_reducible refine Below.drew ?_) | (with_reducible refine below_drewN ?_ _) | ((with_reducible refine below_alloc ?_ ?_ _); · (first | exact Nat.le_refl _ | omega | (simp; done) | (simp; omega) | (simp at *; omega))) | ((with_reducible refine below_set ?_ ?_ _); · (first | exact Nat.le_refl _ | omega | (simp; done) | (simp; omega) | (simp at *; omega))) | ((with_reducible refine below_via (by with_reducible assumption) ?_ ?_); · (first | exact Nat.le_refl _ | omega | (simp; done) | (simp; omega) | (simp at *; omega)))))⟩
    · have HE := Lib.hid (show (decide (lo ≤ n) && decide (n ≤ hi)) = false by simp; omega)
      go_enter Try.func44, Try.ntmps44
      go_wp2_with fail
      go_ret
      exact ⟨by rw [show decide (n ≤ hi) = false by simp; omega]; rfl, (by repeat (first | (with_reducible exact Below.refl _ _) | (with_reducible refine Below.drew ?_) | (with_reducible refine below_drewN ?_ _) | ((with_reducible refine below_alloc ?_ ?_ _); · (first | exact Nat.le_refl _ | omega | (simp; done) | (simp; omega) | (simp at *; omega))) | ((with_reducible refine below_set ?_ ?_ _); · (first | exact Nat.le_refl _ | omega | (simp; done) | (simp; omega) | (simp at *; omega))) | ((with_reducible refine below_via (by with_reducible assumption) ?_ ?_); · (first | exact Nat.le_refl _ | omega | (simp; done) | (simp; omega) | (simp at *; omega)))))⟩
  · have HE := Lib.hid (show (decide (lo ≤ n) && decide (n ≤ hi)) = false by simp; omega)
    go_enter Try.func44, Try.ntmps44
    go_wp2_with fail
    go_ret
    exact ⟨by rw [HE.out]; rfl, (by repeat (first | (with_reducible exact Below.refl _ _) | (with_reducible refine Below.drew ?_) | (with_reducible refine below_drewN ?_ _) | ((with_reducible refine below_alloc ?_ ?_ _); · (first | exact Nat.le_refl _ | omega | (simp; done) | (simp; omega) | (simp at *; omega))) | ((with_reducible refine below_set ?_ ?_ _); · (first | exact Nat.le_refl _ | omega | (simp; done) | (simp; omega) | (simp at *; omega))) | ((with_reducible refine below_via (by with_reducible assumption) ?_ ?_); · (first | exact Nat.le_refl _ | omega | (simp; done) | (simp; omega) | (simp at *; omega)))))⟩

set_option maxRecDepth 100000 in
set_option maxHeartbeats 400000 in
theorem wrap_any (v n : Int) (hn : n ≤ 1000) (W : World) :
    Calls Try.prog 42 #[.int .i64 v, .int .i64 n] W fun e W' => ∃ k : Int, e = .returned (.int .i64 k) ∧ 0 ≤ k ∧ (k < n ∨ k = 0) ∧ W = W' := by
  by_cases h1 : n < 1
  · go_enter Try.func42, Try.ntmps42
    go_wp2_with fail
    go_ret
    exact ⟨0, rfl, by omega, .inr rfl, rfl⟩
  · have h2 : 1 ≤ n := by omega
    have hne : (n == 0) = false := by rw [beq_eq_false_iff_ne]; omega
    have hb : -n < v.tmod n ∧ v.tmod n < n := by
      have h3 := Int.tmod_lt_of_pos v (show 0 < n by omega)
      have h4 : -n < v.tmod n := by
        have h5 := Int.tmod_lt_of_pos (-v) (show 0 < n by omega)
        rw [Int.neg_tmod] at h5
        omega
      exact ⟨h4, h3⟩
    have HB := Lib.hid hb
    have ew : IntKind.i64.wrap (v.tmod n) = v.tmod n := IntWalk.i64_in _ (by omega)
    by_cases h3 : v.tmod n < 0
    · have ew2 : IntKind.i64.wrap (v.tmod n + n) = v.tmod n + n := IntWalk.i64_in _ (by omega)
      clear hb
      go_enter Try.func42, Try.ntmps42
      go_wp2_with fail
      go_ret
      have := HB.out
      exact ⟨_, rfl, by omega, .inl (by omega), rfl⟩
    · clear hb
      go_enter Try.func42, Try.ntmps42
      go_wp2_with fail
      go_ret
      have := HB.out
      exact ⟨_, rfl, by omega, .inl (by omega), rfl⟩

theorem own_keep {wr w' : World} {base cb : Nat} {e : TypeId} {size : Nat} {v : Value} {n : Nat} {xs : List Value} (h : wr.ownsRow base e size v n xs) (hg : wr.grownBy w' (some cb)) (hcb : cb < base) : w'.ownsRow base e size v n xs :=
  h.kept hg (by
    cases hv : v.ownBlock with
    | none => exact .inl rfl
    | some k => exact .inr (fun e => by injection e with e; have := (h.lt k hv).1; omega))
theorem numCells_put {X : Nat → Int} {k : Nat} (x : Int) : numCells X k ++ [.int .i64 x] = numCells (fun j => if j = k then x else X j) (k + 1) := by
  rw [numCells_succ]
  congr 1
  · unfold numCells
    refine List.map_congr_left (fun j hj => ?_)
    have : j < k := by simpa using hj
    show Value.int .i64 (X j) = Value.int .i64 (if j = k then x else X j)
    rw [if_neg (by omega)]
  · simp
/-- what MadeLot gives -/
def LotPost (st : St) (B cb : Nat) (lA : Option Addr) (ln lc : Nat) (W : World) (e : Ending) (W' : World) : Prop :=
  ∃ (A : Option Addr) (c : Nat) (X : Nat → Int), e = .returned (.slice A st.n c) ∧ OwnInt W' W.heap.size A st.n X ∧ st.n ≤ c ∧ (∀ k, k < st.n → 0 ≤ X k ∧ X k ≤ (st.P k).s) ∧ W.grownBy W' (some cb) ∧ Chute W' B cb lA ln lc
theorem ownInt_of {w : World} {base n : Nat} {v : Value} {X : Nat → Int} (h : w.ownsRow base 3 1 v n (numCells X n)) : ∃ A c, v = .slice A n c ∧ OwnInt w base A n X ∧ n ≤ c := by
  rcases h.2 with ⟨rfl, h0⟩ | ⟨g, cap, cur, rfl, hb, hg, hc, _⟩
  · exact ⟨none, 0, by rw [h0], fun k hk => by omega, by omega⟩
  · refine ⟨some ⟨g, 0, none⟩, cap, rfl, fun k hk => ?_, hc⟩
    have h1 := h.cells (g := g) rfl k _ (numCells_get X (by omega))
    rw [show ((⟨g, 0, none⟩ : Addr).add k) = ⟨g, k, none⟩ by by_cases hj : k = 0 <;> simp [Addr.add, hj]] at h1
    exact ⟨g, rfl, hb, h1, fun i => frozen_of_row _ _ _ _ _ hg⟩

set_option maxRecDepth 100000 in
set_option maxHeartbeats 2000000 in
theorem madelot_any (st : St) (B R cb : Nat) (lA : Option Addr) (ln lc : Nat) (hln : ln ≤ 9223372036854775807) (pA gA : Option Addr) (pc gc : Nat) (W : World) (hs : StRow W R st pA pc gA gc) (hne : ∀ a, pA = some a → a.block ≠ cb) (hn : st.n ≤ 4) (hsx : ∀ k, k < st.n → 0 ≤ (st.P k).s ∧ (st.P k).s ≤ 6) (hB : B ≤ W.heap.size) (hcb : cb < W.heap.size) (hc : Chute W B cb lA ln lc) :
    Calls Try.prog 39 #[.pointer (some ⟨cb, 0, none⟩), stV pA st.n pc gA st.m gc st.lots] W (LotPost st B cb lA ln lc W) := by
  have HS := Lib.hid hs
  have HC := Lib.hid hc
  have HNE := Lib.hid hne
  have HX := Lib.hid hsx
  have hR := hs.lt
  clear hs hc hne hsx
  obtain ⟨i0, hi, hz0, hz1, hz2⟩ := info_parts infoInt
  go_enter Try.func39, Try.ntmps39
  go_wp2_with fail
  have hba : Below W.heap.size W (W.alloc (.cells #[.slice pA st.n pc, .slice gA st.m gc, .int .i64 st.lots] 25)) := (by repeat (first | (with_reducible exact Below.refl _ _) | (with_reducible refine Below.drew ?_) | (with_reducible refine below_drewN ?_ _) | ((with_reducible refine below_alloc ?_ ?_ _); · (first | exact Nat.le_refl _ | omega | (simp; done) | (simp; omega) | (simp at *; omega))) | ((with_reducible refine below_set ?_ ?_ _); · (first | exact Nat.le_refl _ | omega | (simp; done) | (simp; omega) | (simp at *; omega))) | ((with_reducible refine below_via (by with_reducible assumption) ?_ ?_); · (first | exact Nat.le_refl _ | omega | (simp; done) | (simp; omega) | (simp at *; omega)))))
  have HC1 := Lib.hid (HC.out.later hba)
  have HG1 := Lib.hid (gb_of_below cb hba)
  clear hba
  go_loopw [5, 11] (fun v i wr => ∃ (k : Nat) (X : Nat → Int), k ≤ st.n ∧ i = .int .i64 k ∧ Hid (wr.ownsRow W.heap.size 3 1 v k (numCells X k)) ∧ Hid (∀ j, j < k → 0 ≤ X j ∧ X j ≤ (st.P j).s) ∧ Hid (Chute wr B cb lA ln lc) ∧ Hid (W.grownBy wr (some cb))) (fun _ i _ => st.n - (intOf i).toNat)
  case atStart => exact ⟨0, fun _ => 0, Nat.zero_le _, rfl, Lib.hid (World.ownsRow_nil _ _ _ _), Lib.hid (fun j hj => absurd hj (by omega)), HC1, HG1⟩
  case round =>
    clear HC1 HG1
    obtain ⟨k, X, hk, rfl, hown, hxs, hch, hg⟩ := hrel
    have hsw := hg.out.size
    by_cases hlt : k < st.n
    · obtain ⟨b, o, rfl, hbl, d0, d1, d2, d3⟩ := HS.out.p k hlt
      have hnb : b ≠ cb := HNE.out _ rfl
      have hkb : wr.heap[b]? = W.heap[b]? := hg.out.block b (by omega) (fun e => by injection e with e; omega)
      have c0 := cell_same hkb d0
      have c1 := cell_same hkb d1
      have c2 := cell_same hkb d2
      have c3 := cell_same hkb d3
      have hx := HX.out k hlt
      have hk0 : (0 : Int) ≤ (k : Int) := by omega
      have hkn : (k : Int) < (st.n : Int) := by omega
      have e1 : IntKind.i64.wrap ((st.P k).s + 1) = (st.P k).s + 1 := IntWalk.i64_in _ (by omega)
      have hv1 := hown.out.lt
      clear d0 d1 d2 d3 hkb
      go_wp2_with fail
      have hba : Below wr.heap.size wr (wr.alloc (.cells #[.int .i64 (st.P k).s, .int .i64 (st.P k).w, .int .i64 (st.P k).o, .int .i64 (st.P k).f] 75)) := (by repeat (first | (with_reducible exact Below.refl _ _) | (with_reducible refine Below.drew ?_) | (with_reducible refine below_drewN ?_ _) | ((with_reducible refine below_alloc ?_ ?_ _); · (first | exact Nat.le_refl _ | omega | (simp; done) | (simp; omega) | (simp at *; omega))) | ((with_reducible refine below_set ?_ ?_ _); · (first | exact Nat.le_refl _ | omega | (simp; done) | (simp; omega) | (simp at *; omega))) | ((with_reducible refine below_via (by with_reducible assumption) ?_ ?_); · (first | exact Nat.le_refl _ | omega | (simp; done) | (simp; omega) | (simp at *; omega)))))
      refine (pull_any B cb lA ln lc ((st.P k).s + 1) (by omega) hln _ (hch.out.later hba)).mono ?_
      rintro e w3 ⟨x, rfl, hx0, hx1, hg3, hc3⟩
      have HG3 := Lib.hid (gb_trans (gb_of_below cb hba) hg3)
      have HC3 := Lib.hid hc3
      have HO3 := Lib.hid (own_keep hown.out HG3.out hcb)
      have hs3 := HG3.out.size
      clear hba hg3 hc3 c0 c1 c2 c3
      go_wp2_with (at_builtin; refine wpList_append_lies _ rfl (.tmp 15) (.tmp 21) 26 rfl W.heap.size 3 i0 (.int .i64 0) 1 8 ints_under hi hz0 hz1 hz2 rfl (by decide) u5 k (numCells X k) rfl (HO3.out.alloc _) ⟨w3.heap.size, 0, none⟩ 1 1 [.int .i64 x] rfl rfl (new_cells (cs := [.int .i64 x])) (by intro u hu; simp only [List.mem_cons, List.not_mem_nil, or_false] at hu; subst hu; rfl) (by omega) (by unfold maxLen; omega) (by omega) (by simp; omega) (w3.heap.size + 1) (by simp) ?_; intro g cap w6 hown6 hgr6 hat6 hlt6)
      have HO6 : Hid (w6.ownsRow W.heap.size 3 1 (.slice (some ⟨g, 0, none⟩) (k + 1) cap) (k + 1) (numCells (fun j => if j = k then x else X j) (k + 1))) := Lib.hid (by rw [← numCells_put]; exact hown6)
      have HX6 : Hid (∀ j, j < k + 1 → 0 ≤ (if j = k then x else X j) ∧ (if j = k then x else X j) ≤ (st.P j).s) := Lib.hid (fun j hj => by
        by_cases e : j = k
        · subst e; rw [if_pos rfl]; omega
        · rw [if_neg e]; exact hxs.out j (by omega))
      have hkeep : ∀ i, i < W.heap.size → w6.heap[i]? = w3.heap[i]? := fun i hi => (hgr6.block i (by simp; omega) (fun e => by have := (hv1 i e.symm).1; omega)).trans (Below.heap_alloc _ _ _ (by omega))
      have HC6 : Hid (Chute w6 B cb lA ln lc) := Lib.hid (HC3.out.keep (fun i hi => hkeep i (by omega)))
      have HG6 : Hid (W.grownBy w6 (some cb)) := Lib.hid ⟨hgr6.os.trans (HG3.out.os.trans hg.out.os), hgr6.tape.trans (HG3.out.tape.trans hg.out.tape), hgr6.output.trans (HG3.out.output.trans hg.out.output), by have := hgr6.size; simp at this; omega, fun i hi hn => (hkeep i hi).trans ((HG3.out.block i (by omega) hn).trans (hg.out.block i hi hn))⟩
      clear hown6 hgr6 hat6 hlt6 hkeep
      go_wp2_with fail
      go_roundw
      case rel => exact ⟨k + 1, _, by omega, by go_num, HO6, HX6, HC6, HG6⟩
      case measure => simp [intOf]; omega
    · obtain rfl : k = st.n := by omega
      have hge : ¬ (st.n : Int) < (st.n : Int) := by omega
      obtain ⟨A, c, rfl, hr, hcl⟩ := ownInt_of hown.out
      have HR := Lib.hid hr
      clear hr
      go_wp2_with fail
      go_ret
      exact ⟨A, c, X, rfl, HR.out, hcl, hxs.out, hg.out, hch.out⟩
end Go.Proofs.Ytegmomappbehcaa

set_option linter.unusedSimpArgs false
set_option linter.unusedVariables false
namespace Go.Proofs.Ytegmomappbehcaa
open Go.RowKit Go.Shelf

/-- all but two blocks is as it was -/
structure Gb2 (A C : World) (m n : Nat) : Prop where
  os : C.os = A.os
  tape : C.tape = A.tape
  output : C.output = A.output
  size : A.heap.size ≤ C.heap.size
  block : ∀ i, i < A.heap.size → i ≠ m → i ≠ n → C.heap[i]? = A.heap[i]?
theorem Gb2.trans {A C D : World} {m n : Nat} (h : Gb2 A C m n) (k : Gb2 C D m n) : Gb2 A D m n :=
  ⟨k.os.trans h.os, k.tape.trans h.tape, k.output.trans h.output, Nat.le_trans h.size k.size, fun i hi h1 h2 => (k.block i (Nat.lt_of_lt_of_le hi h.size) h1 h2).trans (h.block i hi h1 h2)⟩
theorem Gb2.below {A C : World} (m n : Nat) (h : Below A.heap.size A C) : Gb2 A C m n := ⟨h.os, h.tape, h.output, h.size, fun i hi _ _ => h.block i hi⟩
theorem Gb2.one {A C : World} {m : Nat} (n : Nat) (h : A.grownBy C (some m)) : Gb2 A C m n := ⟨h.os, h.tape, h.output, h.size, fun i hi h1 _ => h.block i hi (fun e => h1 (by injection e))⟩
theorem Gb2.two {A C : World} {n : Nat} (m : Nat) (h : A.grownBy C (some n)) : Gb2 A C m n := ⟨h.os, h.tape, h.output, h.size, fun i hi _ h2 => h.block i hi (fun e => h2 (by injection e))⟩
theorem Gb2.refl (A : World) (m n : Nat) : Gb2 A A m n := ⟨rfl, rfl, rfl, Nat.le_refl _, fun _ _ _ _ => rfl⟩
/-- a block that is new does not count -/
theorem Gb2.new {A C : World} {m n : Nat} (h : Gb2 A C m n) (hn : A.heap.size ≤ n) : A.grownBy C (some m) := ⟨h.os, h.tape, h.output, h.size, fun i hi h1 => h.block i hi (fun e => h1 (by rw [e])) (by omega)⟩
theorem Gb2.swap {A C : World} {m n p : Nat} (h : Gb2 A C m n) (hn : A.heap.size ≤ n) : Gb2 A C m p := ⟨h.os, h.tape, h.output, h.size, fun i hi h1 _ => h.block i hi h1 (by omega)⟩
theorem owns_same {w w' : World} {base : Nat} {e : TypeId} {size : Nat} {v : Value} {n : Nat} {xs : List Value} (h : w.ownsRow base e size v n xs) (hk : ∀ g, base ≤ g → g < w.heap.size → w'.heap[g]? = w.heap[g]?) : w'.ownsRow base e size v n xs :=
  ⟨h.1, h.2.imp id (fun ⟨g, cap, cur, a, b, c, d⟩ => ⟨g, cap, cur, a, b, (hk g b (Array.getElem?_eq_some_iff.1 c).1).trans c, d⟩)⟩
theorem setCell_sz (w : World) (a : Addr) (v : Value) : (w.setCell a v).heap.size = w.heap.size := by simp [World.setCell]
/-- a picking in memory -/
def PkAt (w : World) (b : Nat) (x : Pk) : Prop := (w.cell? ⟨b, 0, none⟩ = some (.int .i64 x.s) ∧ w.cell? ⟨b, 1, none⟩ = some (.int .i64 x.w) ∧ w.cell? ⟨b, 2, none⟩ = some (.int .i64 x.o) ∧ w.cell? ⟨b, 3, none⟩ = some (.int .i64 x.f)) ∧
  w.frozen? ⟨b, 1, none⟩ = false ∧ w.frozen? ⟨b, 2, none⟩ = false ∧ w.frozen? ⟨b, 3, none⟩ = false
theorem PkAt.same {w w' : World} {b : Nat} {x : Pk} (h : PkAt w b x) (hs : w'.heap[b]? = w.heap[b]?) : PkAt w' b x :=
  ⟨⟨cell_same hs h.1.1, cell_same hs h.1.2.1, cell_same hs h.1.2.2.1, cell_same hs h.1.2.2.2⟩, fro_same hs h.2.1, fro_same hs h.2.2.1, fro_same hs h.2.2.2⟩
theorem PkAt.lt {w : World} {b : Nat} {x : Pk} (h : PkAt w b x) : b < w.heap.size := World.block_lt_of_cell? w _ h.1.1
theorem PkAt.set1 {w : World} {b : Nat} {x : Pk} (h : PkAt w b x) (v : Int) : PkAt (w.setCell ⟨b, 1, none⟩ (.int .i64 v)) b ⟨x.s, v, x.o, x.f⟩ := by
  obtain ⟨⟨h0, h1, h2, h3⟩, f1, f2, f3⟩ := h
  exact ⟨⟨by simp [go_sem, h0], by simp [go_sem, h1], by simp [go_sem, h2], by simp [go_sem, h3]⟩, fro_set_of _ f1, fro_set_of _ f2, fro_set_of _ f3⟩
theorem PkAt.set2 {w : World} {b : Nat} {x : Pk} (h : PkAt w b x) (v : Int) : PkAt (w.setCell ⟨b, 2, none⟩ (.int .i64 v)) b ⟨x.s, x.w, v, x.f⟩ := by
  obtain ⟨⟨h0, h1, h2, h3⟩, f1, f2, f3⟩ := h
  exact ⟨⟨by simp [go_sem, h0], by simp [go_sem, h1], by simp [go_sem, h2], by simp [go_sem, h3]⟩, fro_set_of _ f1, fro_set_of _ f2, fro_set_of _ f3⟩
theorem PkAt.set3 {w : World} {b : Nat} {x : Pk} (h : PkAt w b x) (v : Int) : PkAt (w.setCell ⟨b, 3, none⟩ (.int .i64 v)) b ⟨x.s, x.w, x.o, v⟩ := by
  obtain ⟨⟨h0, h1, h2, h3⟩, f1, f2, f3⟩ := h
  exact ⟨⟨by simp [go_sem, h0], by simp [go_sem, h1], by simp [go_sem, h2], by simp [go_sem, h3]⟩, fro_set_of _ f1, fro_set_of _ f2, fro_set_of _ f3⟩
/-- a store under way, all of which can be written -/
def O4 (w : World) (b : Nat) (v g : Value) (l : Int) : Prop := Out3 w b v g l ∧ w.frozen? ⟨b, 2, none⟩ = false
theorem O4.same {w w' : World} {b : Nat} {v g : Value} {l : Int} (h : O4 w b v g l) (hs : w'.heap[b]? = w.heap[b]?) : O4 w' b v g l := ⟨h.1.same hs, fro_same hs h.2⟩
theorem O4.set0 {w : World} {b : Nat} {v g : Value} {l : Int} (h : O4 w b v g l) (u : Value) : O4 (w.setCell ⟨b, 0, none⟩ u) b u g l := ⟨h.1.set0 u, fro_set_of _ h.2⟩
theorem O4.set1 {w : World} {b : Nat} {v g : Value} {l : Int} (h : O4 w b v g l) (u : Value) : O4 (w.setCell ⟨b, 1, none⟩ u) b v u l := ⟨h.1.set1 u, fro_set_of _ h.2⟩
/-- a made picking of which so many sacks are foul -/
def goodPk (most : Int) (x : Pk) (r : Int) : Prop := (1 ≤ x.s ∧ x.s ≤ most) ∧ (0 ≤ x.w ∧ x.w ≤ min x.s 3) ∧ (0 ≤ r ∧ r ≤ x.w) ∧ (0 ≤ x.f ∧ x.f ≤ x.o) ∧ x.o ≤ x.s ∧ x.f ≤ r ∧ x.o - x.f ≤ x.s - r
/-- made grades, up to one that is next -/
def goodGd (k : Nat) (G : Nat → Gd) (f p : Int) : Prop := (∀ j, j < k → (0 ≤ (G j).foul ∧ (G j).foul ≤ 19 + 20 * (j : Int)) ∧ 40 - 13 * (j : Int) ≤ (G j).price ∧ (G j).price ≤ 60) ∧ (∀ j, j + 1 < k → (G j).foul < (G (j + 1)).foul ∧ (G (j + 1)).price < (G j).price) ∧
  (0 < k → (G (k - 1)).foul < f ∧ p < (G (k - 1)).price) ∧ (0 ≤ f ∧ f ≤ 19 + 20 * (k : Int)) ∧ 40 - 13 * (k : Int) ≤ p ∧ p ≤ 60
/-- what Made gives -/
def MadePost (np most : Int) (B cb : Nat) (lA : Option Addr) (ln lc : Nat) (W : World) (e : Ending) (W' : World) : Prop :=
  ∃ (st : St) (R : Nat → Int) (pA gA rA : Option Addr) (pc gc rc : Nat), e = .returned (.tuple #[stV pA st.n pc gA st.m gc st.lots, .slice rA st.n rc]) ∧ (1 ≤ st.n ∧ (st.n : Int) ≤ np) ∧ (1 ≤ st.m ∧ st.m ≤ 3) ∧ (1 ≤ st.lots ∧ st.lots ≤ 3) ∧ (∀ k, k < st.n → goodPk most (st.P k) (R k)) ∧ (∃ f p, goodGd st.m st.G f p) ∧
    OwnPk W' W.heap.size pA st.n st.P ∧ OwnGd W' W.heap.size gA st.m st.G ∧ OwnInt W' W.heap.size rA st.n R ∧ st.n ≤ pc ∧ st.m ≤ gc ∧ st.n ≤ rc ∧ W.grownBy W' (some cb) ∧ Chute W' B cb lA ln lc
theorem infoPkM : (Try.prog.info? 75).map (fun i => (i.zero, i.size, i.bytes)) = some (some (.agg #[.int .i64 0, .int .i64 0, .int .i64 0, .int .i64 0]), 4, 32) := by kernel_rfl
theorem infoGdM : (Try.prog.info? 82).map (fun i => (i.zero, i.size, i.bytes)) = some (some (.agg #[.int .i64 0, .int .i64 0]), 2, 16) := by kernel_rfl
theorem pksM_under : Try.prog.underlying 22 = some (.slice 75) := by kernel_rfl
theorem gdsM_under : Try.prog.underlying 23 = some (.slice 82) := by kernel_rfl

theorem pkCells_put {P : Nat → Pk} {k : Nat} (x : Pk) : numCells (pkCell P) (k * 4) ++ [.int .i64 x.s, .int .i64 x.w, .int .i64 x.o, .int .i64 x.f] = numCells (pkCell (fun j => if j = k then x else P j)) ((k + 1) * 4) := by
  rw [pkCells_succ, if_pos rfl]
  congr 1
  unfold numCells
  refine List.map_congr_left (fun j hj => ?_)
  have : j < k * 4 := by simpa using hj
  have h2 : j / 4 ≠ k := by omega
  unfold pkCell
  simp only [if_neg h2]
theorem gdCells_put {P : Nat → Gd} {k : Nat} (x : Gd) : numCells (gdCell P) (k * 2) ++ [.int .i64 x.foul, .int .i64 x.price] = numCells (gdCell (fun j => if j = k then x else P j)) ((k + 1) * 2) := by
  rw [gdCells_succ, if_pos rfl]
  congr 1
  unfold numCells
  refine List.map_congr_left (fun j hj => ?_)
  have : j < k * 2 := by simpa using hj
  have h2 : j / 2 ≠ k := by omega
  unfold gdCell
  simp only [if_neg h2]
theorem goodGd.put {k : Nat} {G : Nat → Gd} {f p x y : Int} (h : goodGd k G f p) (hx : 5 ≤ x ∧ x ≤ 20) (hy : 5 ≤ y ∧ y ≤ 13) : goodGd (k + 1) (fun j => if j = k then ⟨f, p⟩ else G j) (f + x) (p - y) := by
  obtain ⟨h1, h2, h3, h4, h5⟩ := h
  refine ⟨fun j hj => ?_, fun j hj => ?_, fun _ => ?_, by omega, by omega⟩
  · by_cases e : j = k
    · subst e; simp only [if_pos]; omega
    · simp only [if_neg e]; exact h1 j (by omega)
  · by_cases e : j + 1 = k
    · subst e
      have := h3 (by omega)
      rw [Nat.add_sub_cancel] at this
      simp only [if_pos, if_neg (show ¬ j = j + 1 by omega)]
      exact this
    · simp only [if_neg e, if_neg (show ¬ j = k by omega)]
      exact h2 j (by omega)
  · rw [Nat.add_sub_cancel]
    simp only [if_pos]
    omega
theorem goodGd.none {f p : Int} (hf : 0 ≤ f ∧ f ≤ 19) (hp : 40 ≤ p ∧ p ≤ 60) : goodGd 0 (fun _ => ⟨0, 0⟩) f p := ⟨fun j hj => absurd hj (by omega), fun j hj => absurd hj (by omega), fun h => absurd h (by omega), by omega, by omega⟩
theorem numAt_is {w : World} {a : Addr} {z : Int} (h : w.cell? a = some (.int .i64 z)) : numAt w a = z := by unfold numAt; rw [h]
/-- one picking more -/
theorem good_put {most : Int} {P : Nat → Pk} {R : Nat → Int} {k : Nat} {x : Pk} {r : Int} (h : ∀ j, j < k → goodPk most (P j) (R j)) (hx : goodPk most x r) : ∀ j, j < k + 1 → goodPk most (if j = k then x else P j) (if j = k then r else R j) := fun j hj => by
  by_cases e : j = k
  · rw [if_pos e, if_pos e]; exact hx
  · rw [if_neg e, if_neg e]; exact h j (by omega)

set_option maxRecDepth 100000 in
set_option maxHeartbeats 8000000 in
theorem made_any (np most : Int) (hnp : 1 ≤ np ∧ np ≤ 4) (hmost : 1 ≤ most ∧ most ≤ 6) (B cb : Nat) (lA : Option Addr) (ln lc : Nat) (hln : ln ≤ 9223372036854775807) (W : World) (hB : B ≤ W.heap.size) (hcb : cb < W.heap.size) (hc : Chute W B cb lA ln lc) :
    Calls Try.prog 38 #[.pointer (some ⟨cb, 0, none⟩), .int .i64 np, .int .i64 most] W (MadePost np most B cb lA ln lc W) := by
  have HC := Lib.hid hc
  clear hc
  obtain ⟨i0, hi, hz0, hz1, hz2⟩ := info_parts infoPkM
  obtain ⟨j0, ji, jz0, jz1, jz2⟩ := info_parts infoGdM
  obtain ⟨n0, ni, nz0, nz1, nz2⟩ := info_parts infoInt
  go_enter Try.func38, Try.ntmps38
  go_upto_region 3 with fail
  refine wp_world (fun W1 => ((W1.cell? ⟨W.heap.size, 0, none⟩ = some (.slice none 0 0) ∧ W1.cell? ⟨W.heap.size, 1, none⟩ = some (.slice none 0 0) ∧ W1.cell? ⟨W.heap.size, 2, none⟩ = some (.int .i64 0)) ∧ W1.frozen? ⟨W.heap.size, 0, none⟩ = false ∧ W1.frozen? ⟨W.heap.size, 1, none⟩ = false ∧ W1.frozen? ⟨W.heap.size, 2, none⟩ = false) ∧
    ((W1.cell? ⟨W.heap.size + 1, 0, none⟩ = some (.slice none 0 0) ∧ W1.cell? ⟨W.heap.size + 1, 1, none⟩ = some (.slice none 0 0) ∧ W1.cell? ⟨W.heap.size + 1, 2, none⟩ = some (.int .i64 0)) ∧ W1.frozen? ⟨W.heap.size + 1, 0, none⟩ = false ∧ W1.frozen? ⟨W.heap.size + 1, 1, none⟩ = false) ∧ W1.frozen? ⟨W.heap.size + 1, 2, none⟩ = false ∧ Below W.heap.size W W1 ∧ W1.heap.size = W.heap.size + 2) ⟨(by (repeat' refine And.intro ?_ ?_) <;> (repeat (first | (with_reducible assumption) | (simp; done) | (with_reducible refine cell_drew_of ?_) | (with_reducible refine cell_drewN_of ?_) | (with_reducible refine cell_below_of (by with_reducible assumption) ?_) | ((with_reducible refine cell_new_of ?_ ?_) <;> (first | (with_reducible rfl) | (simp; done))) | ((with_reducible refine fro_new_of ?_) <;> (first | (with_reducible rfl) | (simp; done))) | (with_reducible refine cell_alloc_of _ ?_) | (with_reducible refine cell_set_of _ (by (first | exact Nat.le_refl _ | omega | (simp; done) | (simp; omega))) ?_) | (with_reducible refine fro_drew_of ?_) | (with_reducible refine fro_drewN_of ?_) | (with_reducible refine fro_below_of (by with_reducible assumption) (by (first | exact Nat.le_refl _ | omega | (simp; done) | (simp; omega))) ?_) | (with_reducible refine fro_alloc_of _ (by (first | exact Nat.le_refl _ | omega | (simp; done) | (simp; omega))) ?_) | (with_reducible refine fro_set_of _ ?_)))), (by (repeat' refine And.intro ?_ ?_) <;> (repeat (first | (with_reducible assumption) | (simp; done) | (with_reducible refine cell_drew_of ?_) | (with_reducible refine cell_drewN_of ?_) | (with_reducible refine cell_below_of (by with_reducible assumption) ?_) | ((with_reducible refine cell_new_of ?_ ?_) <;> (first | (with_reducible rfl) | (simp; done))) | ((with_reducible refine fro_new_of ?_) <;> (first | (with_reducible rfl) | (simp; done))) | (with_reducible refine cell_alloc_of _ ?_) | (with_reducible refine cell_set_of _ (by (first | exact Nat.le_refl _ | omega | (simp; done) | (simp; omega))) ?_) | (with_reducible refine fro_drew_of ?_) | (with_reducible refine fro_drewN_of ?_) | (with_reducible refine fro_below_of (by with_reducible assumption) (by (first | exact Nat.le_refl _ | omega | (simp; done) | (simp; omega))) ?_) | (with_reducible refine fro_alloc_of _ (by (first | exact Nat.le_refl _ | omega | (simp; done) | (simp; omega))) ?_) | (with_reducible refine fro_set_of _ ?_)))), (by (repeat' refine And.intro ?_ ?_) <;> (repeat (first | (with_reducible assumption) | (simp; done) | (with_reducible refine cell_drew_of ?_) | (with_reducible refine cell_drewN_of ?_) | (with_reducible refine cell_below_of (by with_reducible assumption) ?_) | ((with_reducible refine cell_new_of ?_ ?_) <;> (first | (with_reducible rfl) | (simp; done))) | ((with_reducible refine fro_new_of ?_) <;> (first | (with_reducible rfl) | (simp; done))) | (with_reducible refine cell_alloc_of _ ?_) | (with_reducible refine cell_set_of _ (by (first | exact Nat.le_refl _ | omega | (simp; done) | (simp; omega))) ?_) | (with_reducible refine fro_drew_of ?_) | (with_reducible refine fro_drewN_of ?_) | (with_reducible refine fro_below_of (by with_reducible assumption) (by (first | exact Nat.le_refl _ | omega | (simp; done) | (simp; omega))) ?_) | (with_reducible refine fro_alloc_of _ (by (first | exact Nat.le_refl _ | omega | (simp; done) | (simp; omega))) ?_) | (with_reducible refine fro_set_of _ ?_)))), (by repeat (first | (with_reducible exact Below.refl _ _) | (with_reducible refine Below.drew ?_) | (with_reducible refine below_drewN ?_ _) | ((with_reducible refine below_alloc ?_ ?_ _); · (first | exact Nat.le_refl _ | omega | (simp; done) | (simp; omega) | (simp at *; omega))) | ((with_reducible refine below_set ?_ ?_ _); · (first | exact Nat.le_refl _ | omega | (simp; done) | (simp; omega) | (simp at *; omega))) | ((with_reducible refine below_via (by with_reducible assumption) ?_ ?_); · (first | exact Nat.le_refl _ | omega | (simp; done) | (simp; omega) | (simp at *; omega))))), by simp⟩ ?_
  rintro W1 ⟨ht, ho, hf2, hb1, hs1⟩
  have HT1 := Lib.hid (show St0 W1 W.heap.size from ht)
  have HO1 := Lib.hid (show O4 W1 (W.heap.size + 1) (.slice none 0 0) (.slice none 0 0) 0 from ⟨ho, hf2⟩)
  have HB1 := Lib.hid hb1
  have HC1 := Lib.hid (HC.out.later hb1)
  have hcb1 : cb < W1.heap.size := by omega
  clear ht ho hf2 hb1
  have hs1' := Lib.hid hs1
  have hs1a : W.heap.size + 1 < W1.heap.size := by omega
  clear hs1
  go_wp2_with fail
  refine (between_any B cb lA ln lc 1 np (by omega) (by omega) (by omega) hln _ HC1.out).mono ?_
  rintro e w2 ⟨nk, rfl, hk1, hk2, hg2, hc2⟩
  obtain ⟨nn, rfl⟩ := Int.eq_ofNat_of_zero_le (show 0 ≤ nk by omega)
  have hnn : 1 ≤ nn ∧ (nn : Int) ≤ np ∧ nn ≤ 4 := by omega
  have HG2 := Lib.hid (Gb2.one (W.heap.size + 1) hg2)
  have HC2 := Lib.hid hc2
  have HO2 := Lib.hid (HO1.out.same (hg2.block _ hs1a (fun e => by injection e with e; omega)))
  clear hg2 hc2 hk1 hk2
  go_wp2_with fail
  go_loopw [9, 19] (fun vr i wr => ∃ (k : Nat) (P : Nat → Pk) (R : Nat → Int) (v : Value), k ≤ nn ∧ i = .int .i64 k ∧ Hid (O4 wr (W.heap.size + 1) v (.slice none 0 0) 0) ∧ Hid (wr.ownsRow W1.heap.size 75 4 v k (numCells (pkCell P) (k * 4))) ∧ Hid (wr.ownsRow W1.heap.size 3 1 vr k (numCells R k)) ∧ Hid (vr.ownBlock = none ∨ vr.ownBlock ≠ v.ownBlock) ∧ Hid (∀ j, j < k → goodPk most (P j) (R j)) ∧ Hid (Chute wr B cb lA ln lc) ∧ Hid (Gb2 W1 wr cb (W.heap.size + 1))) (fun _ i _ => nn - (intOf i).toNat)
  case atStart => exact ⟨0, fun _ => ⟨0, 0, 0, 0⟩, fun _ => 0, _, Nat.zero_le _, rfl, HO2, Lib.hid (World.ownsRow_nil _ _ _ _), Lib.hid (World.ownsRow_nil _ _ _ _), Lib.hid (.inl rfl), Lib.hid (fun j hj => absurd hj (by omega)), HC2, HG2⟩
  case round =>
    clear HO2 HC2 HG2
    obtain ⟨k, P, R, v, hk, rfl, ho, hownV, hownR, hdis, hgood, hch, hg⟩ := hrel
    have hsw := hg.out.size
    by_cases hlt : k < nn
    · have hk0 : (0 : Int) ≤ (k : Int) := by omega
      have hkn : (k : Int) < (nn : Int) := by omega
      obtain ⟨wo, rfl⟩ : ∃ wo, wo = wr := ⟨_, rfl⟩
      go_wp2_with fail
      refine (between_any B cb lA ln lc 1 _ (by omega) (by omega) (by omega) hln _ hch.out).mono ?_
      rintro e w3 ⟨s, rfl, hs1, hs2, hg3, hc3⟩
      have hss : 1 ≤ s ∧ s ≤ most ∧ s ≤ 6 := by omega
      have HC3 := Lib.hid hc3
      have HG3 := Lib.hid (Gb2.one w3.heap.size hg3)
      have hs3 := hg3.size
      have ew1 : IntKind.i64.wrap (min s 3 + 1) = min s 3 + 1 := IntWalk.i64_in _ (by omega)
      clear hg3 hc3 hs1 hs2
      go_wp2_with fail
      have hba : Below w3.heap.size w3 (w3.alloc (.cells #[.int .i64 s, .int .i64 0, .int .i64 0, .int .i64 0] 75)) := (by repeat (first | (with_reducible exact Below.refl _ _) | (with_reducible refine Below.drew ?_) | (with_reducible refine below_drewN ?_ _) | ((with_reducible refine below_alloc ?_ ?_ _); · (first | exact Nat.le_refl _ | omega | (simp; done) | (simp; omega) | (simp at *; omega))) | ((with_reducible refine below_set ?_ ?_ _); · (first | exact Nat.le_refl _ | omega | (simp; done) | (simp; omega) | (simp at *; omega))) | ((with_reducible refine below_via (by with_reducible assumption) ?_ ?_); · (first | exact Nat.le_refl _ | omega | (simp; done) | (simp; omega) | (simp at *; omega)))))
      have HP3 : Hid (PkAt (w3.alloc (.cells #[.int .i64 s, .int .i64 0, .int .i64 0, .int .i64 0] 75)) w3.heap.size ⟨s, 0, 0, 0⟩) := Lib.hid (by (repeat' refine And.intro ?_ ?_) <;> (repeat (first | (with_reducible assumption) | (simp; done) | (with_reducible refine cell_drew_of ?_) | (with_reducible refine cell_drewN_of ?_) | (with_reducible refine cell_below_of (by with_reducible assumption) ?_) | ((with_reducible refine cell_new_of ?_ ?_) <;> (first | (with_reducible rfl) | (simp; done))) | ((with_reducible refine fro_new_of ?_) <;> (first | (with_reducible rfl) | (simp; done))) | (with_reducible refine cell_alloc_of _ ?_) | (with_reducible refine cell_set_of _ (by (first | exact Nat.le_refl _ | omega | (simp; done) | (simp; omega))) ?_) | (with_reducible refine fro_drew_of ?_) | (with_reducible refine fro_drewN_of ?_) | (with_reducible refine fro_below_of (by with_reducible assumption) (by (first | exact Nat.le_refl _ | omega | (simp; done) | (simp; omega))) ?_) | (with_reducible refine fro_alloc_of _ (by (first | exact Nat.le_refl _ | omega | (simp; done) | (simp; omega))) ?_) | (with_reducible refine fro_set_of _ ?_))))
      refine (pull_any B cb lA ln lc (min s 3 + 1) (by omega) hln _ (HC3.out.later hba)).mono ?_
      rintro e w4 ⟨w, rfl, hw0, hw1, hg4, hc4⟩
      have hww : 0 ≤ w ∧ w ≤ min s 3 := by omega
      have HP4 := Lib.hid (HP3.out.same (hg4.block _ (by simp) (fun e => by injection e with e; omega)))
      have HG4 := Lib.hid (HG3.out.trans ((Gb2.below cb w3.heap.size hba).trans (Gb2.one w3.heap.size hg4)))
      have hs4 := hg4.size
      simp only [World.size_alloc] at hs4
      have HC4 := Lib.hid (hc4.keep (w' := w4.setCell ⟨w3.heap.size, 1, none⟩ (.int .i64 w)) (fun i hi => Below.heap_setCell _ _ _ _ (by dsimp only; omega)))
      have HP5 := Lib.hid (HP4.out.set1 w)
      have HGS := Lib.hid (HG4.out.trans (Gb2.two cb (gb_set w4 w3.heap.size 1 (.int .i64 w))))
      have ew2 : IntKind.i64.wrap (w + 1) = w + 1 := IntWalk.i64_in _ (by omega)
      obtain ⟨⟨c0, c1, c2, c3⟩, f1, f2, f3⟩ := HP4.out
      clear hba hg4 hc4 hw0 hw1 HG3 HG4 HC3 HP3
      go_wp2_with fail
      refine (pull_any B cb lA ln lc (w + 1) (by omega) hln _ HC4.out).mono ?_
      rintro e w5 ⟨r, rfl, hr0, hr1, hg5, hc5⟩
      have hrr : 0 ≤ r ∧ r ≤ w := by omega
      have hs5 := hg5.size
      simp only [setCell_sz] at hs5
      have HP := Lib.hid (HP5.out.same (hg5.block _ (by simp [setCell_sz]; omega) (fun e => by injection e with e; omega)))
      have HG5 := Lib.hid (HGS.out.trans (Gb2.one w3.heap.size hg5))
      have HC5 := Lib.hid hc5
      have HSB : Hid (∀ wy, Gb2 w5 wy cb w3.heap.size → ∀ i, i < wo.heap.size → i ≠ cb → i ≠ w3.heap.size → wy.heap[i]? = wo.heap[i]?) := Lib.hid (fun wy h i hi h1 h2 => (h.block i (by have := HG5.out.size; omega) h1 h2).trans (HG5.out.block i hi h1 h2))
      clear hg5 hc5 hr0 hr1 c0 c1 c2 c3 f1 f2 f3 HP4 HP5 HGS HC4
      go_wp2_with fail
      go_loopw [12] (fun l wy => ∃ (o f : Int), l = .int .i64 (r - f) ∧ Hid (PkAt wy w3.heap.size ⟨s, w, o, f⟩) ∧ Hid ((0 ≤ f ∧ f ≤ o) ∧ o ≤ s ∧ f ≤ r ∧ o - f ≤ s - r) ∧ Hid (Chute wy B cb lA ln lc) ∧ Hid (Gb2 w5 wy cb w3.heap.size)) (fun _ wy => 7 - (numAt wy ⟨w3.heap.size, 2, none⟩).toNat)
      case atStart => exact ⟨0, 0, by simp, HP, Lib.hid (by omega), HC5, Lib.hid (Gb2.refl _ _ _)⟩
      case round =>
        clear HP HC5
        obtain ⟨o, f, rfl, HPK, hof, HCH, HGB⟩ := hrel
        obtain ⟨wy, rfl⟩ : ∃ wy, wy = wr := ⟨_, rfl⟩
        have hofo := hof.out
        by_cases hos : o < s
        · obtain ⟨⟨c0, c1, c2, c3⟩, f1, f2, f3⟩ := HPK.out
          go_wp2_with fail
          refine (chin_any B cb lA ln lc 3 (by omega) hln _ HCH.out).mono ?_
          rintro e w6 ⟨b, rfl, hg6, hc6⟩
          have HC6 := Lib.hid hc6
          have HG6 := Lib.hid (HGB.out.trans (Gb2.one w3.heap.size hg6))
          have HP6 := Lib.hid (HPK.out.same (hg6.block _ HPK.out.lt (fun e => by injection e with e; omega)))
          have HN6 := Lib.hid (numAt_is c2)
          clear hg6 hc6 c0 c1 c2 c3 f1 f2 f3
          cases b with
          | true =>
            clear HPK HCH HGB
            have HPK := HP6
            have HCH := HC6
            have HGB := HG6
            have HSW := Lib.hid (show Gb2 wo w6 cb (W.heap.size + 1) from (HG5.out.trans HGB.out).swap (by omega))
            have hsy := HGB.out.size
            have hW1y : W1.heap.size ≤ w6.heap.size := by have := HSW.out.size; omega
            have hof2 := hof.out
            have hxg := Lib.hid (show goodPk most ⟨s, w, o, f⟩ r by unfold goodPk; dsimp only; omega)
            have HOY := Lib.hid (ho.out.same (HSB.out w6 HGB.out _ (by omega) (by omega) (by omega)))
            have HVY := Lib.hid (owns_same hownV.out (fun g h1 h2 => HSB.out w6 HGB.out g h2 (by omega) (by omega)))
            have HRY := Lib.hid (owns_same hownR.out (fun g h1 h2 => HSB.out w6 HGB.out g h2 (by omega) (by omega)))
            have hvV := hownV.out.lt
            have hvR := hownR.out.lt
            obtain ⟨⟨q0, q1, q2⟩, fq0, fq1⟩ := HOY.out.1
            obtain ⟨⟨c0, c1, c2, c3⟩, _⟩ := HPK.out
            go_wp2_with (at_builtin; first | (refine wpList_append_lies _ rfl (.tmp 80) (.tmp 82) 22 rfl W1.heap.size 75 i0 (.agg #[.int .i64 0, .int .i64 0, .int .i64 0, .int .i64 0]) 4 32 pksM_under hi hz0 hz1 hz2 rfl (by decide) v k (numCells (pkCell P) (k * 4)) rfl (HVY.out.alloc _) ⟨w6.heap.size, 0, none⟩ 1 1 [.int .i64 s, .int .i64 w, .int .i64 o, .int .i64 f] rfl rfl (new_cells (cs := [.int .i64 s, .int .i64 w, .int .i64 o, .int .i64 f])) (by intro u hu; simp only [List.mem_cons, List.not_mem_nil, or_false] at hu; rcases hu with rfl | rfl | rfl | rfl <;> rfl) (by omega) (by unfold maxLen; omega) (by omega) (by simp; omega) (w6.heap.size + 1) (by simp) ?_; intro gV capV wV hownV6 hgrV hatV hltV; have hzV := hgrV.size; simp only [World.size_alloc] at hzV; have hXV : Hid (∀ i, i < W1.heap.size → wV.heap[i]? = w6.heap[i]?) := Lib.hid (fun i hi => (hgrV.block i (by simp; omega) (fun e => by have := (hvV i e.symm).1; omega)).trans (Below.heap_alloc _ _ _ (by omega)))) | (refine wpList_append_lies _ rfl (.tmp 84) (.tmp 86) 26 rfl W1.heap.size 3 n0 (.int .i64 0) 1 8 ints_under ni nz0 nz1 nz2 rfl (by decide) u9 k (numCells R k) rfl (((HRY.out.alloc _).kept hgrV hdis.out).alloc _) ⟨wV.heap.size, 0, none⟩ 1 1 [.int .i64 r] rfl rfl (new_cells (cs := [.int .i64 r])) (by intro u hu; simp only [List.mem_cons, List.not_mem_nil, or_false] at hu; subst hu; rfl) (by omega) (by unfold maxLen; omega) (by omega) (by simp; omega) (wV.heap.size + 1) (by simp) ?_; intro gR capR wR hownR6 hgrR hatR hltR; have hzR := hgrR.size; simp only [World.size_alloc] at hzR; have hXR : Hid (∀ i, i < W1.heap.size → wR.heap[i]? = w6.heap[i]?) := Lib.hid (fun i hi => (hgrR.block i (by simp; omega) (fun e => by have := (hvR i e.symm).1; omega)).trans ((Below.heap_alloc _ _ _ (by omega)).trans (hXV.out i hi))); obtain ⟨⟨p0, p1, p2⟩, fp0, fp1⟩ := (HOY.out.same (hXR.out _ hs1a)).1) | fail)
            have hneV : ∀ g, u9.ownBlock = some g → g ≠ gV := fun g hgg e => by
              subst e
              have h1 := hvR g hgg
              rcases hatV with h | h
              · rcases hdis.out with h2 | h2
                · rw [hgg] at h2; cases h2
                · exact h2 (hgg.trans h.symm)
              · have := HG5.out.size
                omega
            have HOF := Lib.hid ((HOY.out.same (hXR.out _ hs1a)).set0 (.slice (some ⟨gV, 0, none⟩) (k + 1) capV))
            have HVF : Hid ((wR.setCell ⟨W.heap.size + 1, 0, none⟩ (.slice (some ⟨gV, 0, none⟩) (k + 1) capV)).ownsRow W1.heap.size 75 4 (.slice (some ⟨gV, 0, none⟩) (k + 1) capV) (k + 1) (numCells (pkCell (fun j => if j = k then ⟨s, w, o, f⟩ else P j)) ((k + 1) * 4))) := Lib.hid (by
              rw [← pkCells_put]
              exact owns_same ((hownV6.alloc _).kept hgrR (.inr (fun e => hneV gV e.symm rfl))) (fun g h1 h2 => set_heap _ (by dsimp only; omega)))
            have HRF : Hid ((wR.setCell ⟨W.heap.size + 1, 0, none⟩ (.slice (some ⟨gV, 0, none⟩) (k + 1) capV)).ownsRow W1.heap.size 3 1 (.slice (some ⟨gR, 0, none⟩) (k + 1) capR) (k + 1) (numCells (fun j => if j = k then r else R j) (k + 1))) := Lib.hid (by
              rw [← numCells_put]
              exact owns_same hownR6 (fun g h1 h2 => set_heap _ (by dsimp only; omega)))
            have HDF : Hid ((Value.slice (some ⟨gR, 0, none⟩) (k + 1) capR).ownBlock = none ∨ (Value.slice (some ⟨gR, 0, none⟩) (k + 1) capR).ownBlock ≠ (Value.slice (some ⟨gV, 0, none⟩) (k + 1) capV).ownBlock) := Lib.hid (.inr (fun e => by
              injection e with e
              rcases hatR with h | h
              · exact hneV gR h e
              · dsimp only at e; omega))
            have HCF : Hid (Chute (wR.setCell ⟨W.heap.size + 1, 0, none⟩ (.slice (some ⟨gV, 0, none⟩) (k + 1) capV)) B cb lA ln lc) := Lib.hid (HCH.out.keep (fun i hi => (set_heap _ (by dsimp only; omega)).trans (hXR.out i (by omega))))
            have HGF : Hid (Gb2 W1 (wR.setCell ⟨W.heap.size + 1, 0, none⟩ (.slice (some ⟨gV, 0, none⟩) (k + 1) capV)) cb (W.heap.size + 1)) := Lib.hid (by
              have h1 := hg.out.trans HSW.out
              exact ⟨(hgrR.os.trans hgrV.os).trans h1.os, (hgrR.tape.trans hgrV.tape).trans h1.tape, (hgrR.output.trans hgrV.output).trans h1.output, by rw [setCell_sz]; omega, fun i hi h2 h3 => (set_heap _ (by dsimp only; omega)).trans ((hXR.out i hi).trans (h1.block i hi h2 h3))⟩)
            have HGD := Lib.hid (good_put hgood.out hxg.out)
            clear hownV6 hgrV hatV hltV hownR6 hgrR hatR hltR hXV hXR p0 p1 p2 fp0 fp1 q0 q1 q2 fq0 fq1 c0 c1 c2 c3 hneV
            refine ⟨?_, ?measure⟩
            case measure => simp [intOf]; omega
            exact ⟨k + 1, _, _, _, by omega, by go_num, HOF, HVF, HRF, HDF, HGD, HCF, HGF⟩
          | false =>
            have e1 : IntKind.i64.wrap (s - r) = s - r := IntWalk.i64_in _ (by omega)
            have e2 : IntKind.i64.wrap (o - f) = o - f := IntWalk.i64_in _ (by omega)
            have e3 : IntKind.i64.wrap (s - r - (o - f)) = s - r - (o - f) := IntWalk.i64_in _ (by omega)
            have e4 : IntKind.i64.wrap (r - f - 1) = r - f - 1 := IntWalk.i64_in _ (by omega)
            have e5 : IntKind.i64.wrap (f + 1) = f + 1 := IntWalk.i64_in _ (by omega)
            have e6 : IntKind.i64.wrap (o + 1) = o + 1 := IntWalk.i64_in _ (by omega)
            clear HPK HCH HGB
            by_cases hl : 0 < r - f
            · by_cases hcl : s - r - (o - f) = 0
              · have hcb2 : (s - r - (o - f) == 0) = true := by rw [beq_iff_eq]; exact hcl
                have hcl' := Lib.hid hcl
                have HPt := HP6
                have HCt := HC6
                have HGt := HG6
                clear hcl
                obtain ⟨⟨c0, c1, c2, c3⟩, f1, f2, f3⟩ := HPt.out
                have x3 := cell_regrown c3
                go_upto_region 13 with fail
                refine region_qbt 7 (by kernel_rfl) (by kernel_rfl) ?_
                simp only [List.take_succ_cons, List.take_zero, List.drop_succ_cons, List.drop_zero]
                repeat (first | go_big_quiet_step (fail) | quiet_step (fail))
                refine wpQuiet_nil ?_; intro wq hbq
                have HPq := Lib.hid (HPt.out.same (hbq.block _ HPt.out.lt))
                have HCq := Lib.hid (HCt.out.later hbq)
                have HGq := Lib.hid (HGt.out.trans (Gb2.below cb w3.heap.size hbq))
                clear x3 c0 c1 c2 c3 f1 f2 f3 hbq
                obtain ⟨⟨c0, c1, c2, c3⟩, f1, f2, f3⟩ := HPq.out
                have HPf := Lib.hid ((HPq.out.set3 (f + 1)).set2 (o + 1))
                have HCf := Lib.hid (HCq.out.keep (w' := (wq.setCell ⟨w3.heap.size, 3, none⟩ (.int .i64 (f + 1))).setCell ⟨w3.heap.size, 2, none⟩ (.int .i64 (o + 1))) (fun i hi => (set_heap _ (by dsimp only; omega)).trans (set_heap _ (by dsimp only; omega))))
                have HGf := Lib.hid (HGq.out.trans (Gb2.two cb (gb_trans (gb_set wq w3.heap.size 3 (.int .i64 (f + 1))) (gb_set _ w3.heap.size 2 (.int .i64 (o + 1))))))
                have HNf := Lib.hid (numAt_is HPf.out.1.2.2.1)
                go_wp2_with fail
                refine ⟨?_, ?measure⟩
                case measure => rw [HNf.out, HN6.out]; (try dsimp only); omega
                exact ⟨o + 1, f + 1, by congr 1; omega, HPf, Lib.hid (by omega), HCf, HGf⟩
              · have hcb2 : (s - r - (o - f) == 0) = false := by rw [beq_eq_false_iff_ne]; exact hcl
                have hcl' := Lib.hid hcl
                obtain ⟨⟨c0, c1, c2, c3⟩, f1, f2, f3⟩ := HP6.out
                clear hcl
                go_wp2_with fail
                refine (chin_any B cb lA ln lc 3 (by omega) hln _ HC6.out).mono ?_
                rintro e w7 ⟨b2, rfl, hg7, hc7⟩
                have HCt := Lib.hid hc7
                have HGt := Lib.hid (HG6.out.trans (Gb2.one w3.heap.size hg7))
                have HPt := Lib.hid (HP6.out.same (hg7.block _ HP6.out.lt (fun e => by injection e with e; omega)))
                clear hg7 hc7 c0 c1 c2 c3 f1 f2 f3
                cases b2 with
                | true =>
                  obtain ⟨⟨c0, c1, c2, c3⟩, f1, f2, f3⟩ := HPt.out
                  have x3 := cell_regrown c3
                  go_upto_region 13 with fail
                  refine region_qbt 7 (by kernel_rfl) (by kernel_rfl) ?_
                  simp only [List.take_succ_cons, List.take_zero, List.drop_succ_cons, List.drop_zero]
                  repeat (first | go_big_quiet_step (fail) | quiet_step (fail))
                  refine wpQuiet_nil ?_; intro wq hbq
                  have HPq := Lib.hid (HPt.out.same (hbq.block _ HPt.out.lt))
                  have HCq := Lib.hid (HCt.out.later hbq)
                  have HGq := Lib.hid (HGt.out.trans (Gb2.below cb w3.heap.size hbq))
                  clear x3 c0 c1 c2 c3 f1 f2 f3 hbq
                  obtain ⟨⟨c0, c1, c2, c3⟩, f1, f2, f3⟩ := HPq.out
                  have HPf := Lib.hid ((HPq.out.set3 (f + 1)).set2 (o + 1))
                  have HCf := Lib.hid (HCq.out.keep (w' := (wq.setCell ⟨w3.heap.size, 3, none⟩ (.int .i64 (f + 1))).setCell ⟨w3.heap.size, 2, none⟩ (.int .i64 (o + 1))) (fun i hi => (set_heap _ (by dsimp only; omega)).trans (set_heap _ (by dsimp only; omega))))
                  have HGf := Lib.hid (HGq.out.trans (Gb2.two cb (gb_trans (gb_set wq w3.heap.size 3 (.int .i64 (f + 1))) (gb_set _ w3.heap.size 2 (.int .i64 (o + 1))))))
                  have HNf := Lib.hid (numAt_is HPf.out.1.2.2.1)
                  go_wp2_with fail
                  refine ⟨?_, ?measure⟩
                  case measure => rw [HNf.out, HN6.out]; (try dsimp only); omega
                  exact ⟨o + 1, f + 1, by congr 1; omega, HPf, Lib.hid (by omega), HCf, HGf⟩
                | false =>
                  have hcn := hcl'.out
                  obtain ⟨⟨c0, c1, c2, c3⟩, f1, f2, f3⟩ := HPt.out
                  have HPf := Lib.hid (HPt.out.set2 (o + 1))
                  have HCf := Lib.hid (HCt.out.keep (w' := w7.setCell ⟨w3.heap.size, 2, none⟩ (.int .i64 (o + 1))) (fun i hi => set_heap _ (by dsimp only; omega)))
                  have HGf := Lib.hid (HGt.out.trans (Gb2.two cb (gb_set w7 w3.heap.size 2 (.int .i64 (o + 1)))))
                  have HNf := Lib.hid (numAt_is HPf.out.1.2.2.1)
                  go_wp2_with fail
                  refine ⟨?_, ?measure⟩
                  case measure => rw [HNf.out, HN6.out]; (try dsimp only); omega
                  exact ⟨o + 1, f, rfl, HPf, Lib.hid (by omega), HCf, HGf⟩
            · have hcn : s - r - (o - f) ≠ 0 := by omega
              have HPt := HP6
              have HCt := HC6
              have HGt := HG6
              obtain ⟨⟨c0, c1, c2, c3⟩, f1, f2, f3⟩ := HPt.out
              have HPf := Lib.hid (HPt.out.set2 (o + 1))
              have HCf := Lib.hid (HCt.out.keep (w' := w6.setCell ⟨w3.heap.size, 2, none⟩ (.int .i64 (o + 1))) (fun i hi => set_heap _ (by dsimp only; omega)))
              have HGf := Lib.hid (HGt.out.trans (Gb2.two cb (gb_set w6 w3.heap.size 2 (.int .i64 (o + 1)))))
              have HNf := Lib.hid (numAt_is HPf.out.1.2.2.1)
              go_wp2_with fail
              refine ⟨?_, ?measure⟩
              case measure => rw [HNf.out, HN6.out]; (try dsimp only); omega
              exact ⟨o + 1, f, rfl, HPf, Lib.hid (by omega), HCf, HGf⟩
        · have hge : ¬ o < s := hos
          have HSW := Lib.hid (show Gb2 wo wy cb (W.heap.size + 1) from (HG5.out.trans HGB.out).swap (by omega))
          have hsy := HGB.out.size
          have hW1y : W1.heap.size ≤ wy.heap.size := by have := HSW.out.size; omega
          have hof2 := hof.out
          have hxg := Lib.hid (show goodPk most ⟨s, w, o, f⟩ r by unfold goodPk; dsimp only; omega)
          have HOY := Lib.hid (ho.out.same (HSB.out wy HGB.out _ (by omega) (by omega) (by omega)))
          have HVY := Lib.hid (owns_same hownV.out (fun g h1 h2 => HSB.out wy HGB.out g h2 (by omega) (by omega)))
          have HRY := Lib.hid (owns_same hownR.out (fun g h1 h2 => HSB.out wy HGB.out g h2 (by omega) (by omega)))
          have hvV := hownV.out.lt
          have hvR := hownR.out.lt
          obtain ⟨⟨q0, q1, q2⟩, fq0, fq1⟩ := HOY.out.1
          obtain ⟨⟨c0, c1, c2, c3⟩, _⟩ := HPK.out
          go_wp2_with (at_builtin; first | (refine wpList_append_lies _ rfl (.tmp 80) (.tmp 82) 22 rfl W1.heap.size 75 i0 (.agg #[.int .i64 0, .int .i64 0, .int .i64 0, .int .i64 0]) 4 32 pksM_under hi hz0 hz1 hz2 rfl (by decide) v k (numCells (pkCell P) (k * 4)) rfl (HVY.out.alloc _) ⟨wy.heap.size, 0, none⟩ 1 1 [.int .i64 s, .int .i64 w, .int .i64 o, .int .i64 f] rfl rfl (new_cells (cs := [.int .i64 s, .int .i64 w, .int .i64 o, .int .i64 f])) (by intro u hu; simp only [List.mem_cons, List.not_mem_nil, or_false] at hu; rcases hu with rfl | rfl | rfl | rfl <;> rfl) (by omega) (by unfold maxLen; omega) (by omega) (by simp; omega) (wy.heap.size + 1) (by simp) ?_; intro gV capV wV hownV6 hgrV hatV hltV; have hzV := hgrV.size; simp only [World.size_alloc] at hzV; have hXV : Hid (∀ i, i < W1.heap.size → wV.heap[i]? = wy.heap[i]?) := Lib.hid (fun i hi => (hgrV.block i (by simp; omega) (fun e => by have := (hvV i e.symm).1; omega)).trans (Below.heap_alloc _ _ _ (by omega)))) | (refine wpList_append_lies _ rfl (.tmp 84) (.tmp 86) 26 rfl W1.heap.size 3 n0 (.int .i64 0) 1 8 ints_under ni nz0 nz1 nz2 rfl (by decide) u9 k (numCells R k) rfl (((HRY.out.alloc _).kept hgrV hdis.out).alloc _) ⟨wV.heap.size, 0, none⟩ 1 1 [.int .i64 r] rfl rfl (new_cells (cs := [.int .i64 r])) (by intro u hu; simp only [List.mem_cons, List.not_mem_nil, or_false] at hu; subst hu; rfl) (by omega) (by unfold maxLen; omega) (by omega) (by simp; omega) (wV.heap.size + 1) (by simp) ?_; intro gR capR wR hownR6 hgrR hatR hltR; have hzR := hgrR.size; simp only [World.size_alloc] at hzR; have hXR : Hid (∀ i, i < W1.heap.size → wR.heap[i]? = wy.heap[i]?) := Lib.hid (fun i hi => (hgrR.block i (by simp; omega) (fun e => by have := (hvR i e.symm).1; omega)).trans ((Below.heap_alloc _ _ _ (by omega)).trans (hXV.out i hi))); obtain ⟨⟨p0, p1, p2⟩, fp0, fp1⟩ := (HOY.out.same (hXR.out _ hs1a)).1) | fail)
          have hneV : ∀ g, u9.ownBlock = some g → g ≠ gV := fun g hgg e => by
            subst e
            have h1 := hvR g hgg
            rcases hatV with h | h
            · rcases hdis.out with h2 | h2
              · rw [hgg] at h2; cases h2
              · exact h2 (hgg.trans h.symm)
            · have := HG5.out.size
              omega
          have HOF := Lib.hid ((HOY.out.same (hXR.out _ hs1a)).set0 (.slice (some ⟨gV, 0, none⟩) (k + 1) capV))
          have HVF : Hid ((wR.setCell ⟨W.heap.size + 1, 0, none⟩ (.slice (some ⟨gV, 0, none⟩) (k + 1) capV)).ownsRow W1.heap.size 75 4 (.slice (some ⟨gV, 0, none⟩) (k + 1) capV) (k + 1) (numCells (pkCell (fun j => if j = k then ⟨s, w, o, f⟩ else P j)) ((k + 1) * 4))) := Lib.hid (by
            rw [← pkCells_put]
            exact owns_same ((hownV6.alloc _).kept hgrR (.inr (fun e => hneV gV e.symm rfl))) (fun g h1 h2 => set_heap _ (by dsimp only; omega)))
          have HRF : Hid ((wR.setCell ⟨W.heap.size + 1, 0, none⟩ (.slice (some ⟨gV, 0, none⟩) (k + 1) capV)).ownsRow W1.heap.size 3 1 (.slice (some ⟨gR, 0, none⟩) (k + 1) capR) (k + 1) (numCells (fun j => if j = k then r else R j) (k + 1))) := Lib.hid (by
            rw [← numCells_put]
            exact owns_same hownR6 (fun g h1 h2 => set_heap _ (by dsimp only; omega)))
          have HDF : Hid ((Value.slice (some ⟨gR, 0, none⟩) (k + 1) capR).ownBlock = none ∨ (Value.slice (some ⟨gR, 0, none⟩) (k + 1) capR).ownBlock ≠ (Value.slice (some ⟨gV, 0, none⟩) (k + 1) capV).ownBlock) := Lib.hid (.inr (fun e => by
            injection e with e
            rcases hatR with h | h
            · exact hneV gR h e
            · dsimp only at e; omega))
          have HCF : Hid (Chute (wR.setCell ⟨W.heap.size + 1, 0, none⟩ (.slice (some ⟨gV, 0, none⟩) (k + 1) capV)) B cb lA ln lc) := Lib.hid (HCH.out.keep (fun i hi => (set_heap _ (by dsimp only; omega)).trans (hXR.out i (by omega))))
          have HGF : Hid (Gb2 W1 (wR.setCell ⟨W.heap.size + 1, 0, none⟩ (.slice (some ⟨gV, 0, none⟩) (k + 1) capV)) cb (W.heap.size + 1)) := Lib.hid (by
            have h1 := hg.out.trans HSW.out
            exact ⟨(hgrR.os.trans hgrV.os).trans h1.os, (hgrR.tape.trans hgrV.tape).trans h1.tape, (hgrR.output.trans hgrV.output).trans h1.output, by rw [setCell_sz]; omega, fun i hi h2 h3 => (set_heap _ (by dsimp only; omega)).trans ((hXR.out i hi).trans (h1.block i hi h2 h3))⟩)
          have HGD := Lib.hid (good_put hgood.out hxg.out)
          clear hownV6 hgrV hatV hltV hownR6 hgrR hatR hltR hXV hXR p0 p1 p2 fp0 fp1 q0 q1 q2 fq0 fq1 c0 c1 c2 c3 hneV
          refine ⟨?_, ?measure⟩
          case measure => simp [intOf]; omega
          exact ⟨k + 1, _, _, _, by omega, by go_num, HOF, HVF, HRF, HDF, HGD, HCF, HGF⟩
    · obtain rfl : k = nn := by omega
      have hge : ¬ (k : Int) < (k : Int) := by omega
      obtain ⟨pA, pc, rfl, hop, hpc⟩ := OwnPk.of_ownsT (P := P) hownV.out
      obtain ⟨rA, rc, rfl, hor, hrc⟩ := ownInt_of hownR.out
      have HOP := Lib.hid hop
      have HOR := Lib.hid hor
      clear hop hor hownV hownR hdis
      obtain ⟨wo, rfl⟩ : ∃ wo, wo = wr := ⟨_, rfl⟩
      go_wp2_with fail
      refine (pull_any B cb lA ln lc 20 (by omega) hln _ hch.out).mono ?_
      rintro e w3 ⟨f0, rfl, hf0, hf1, hg3, hc3⟩
      have HC3 := Lib.hid hc3
      have HG3 := Lib.hid (Gb2.one (W.heap.size + 1) hg3)
      have HO3 := Lib.hid (ho.out.same (hg3.block _ (by omega) (fun e => by injection e with e; omega)))
      have hs3 := hg3.size
      clear hg3 hc3
      go_wp2_with fail
      refine (between_any B cb lA ln lc 40 60 (by omega) (by omega) (by omega) hln _ HC3.out).mono ?_
      rintro e w4 ⟨p0, rfl, hp0, hp1, hg4, hc4⟩
      have HC4 := Lib.hid hc4
      have HG4 := Lib.hid (HG3.out.trans (Gb2.one (W.heap.size + 1) hg4))
      have HO4 := Lib.hid (HO3.out.same (hg4.block _ (by omega) (fun e => by injection e with e; omega)))
      have hs4 := hg4.size
      clear hg4 hc4
      have HGD0 := Lib.hid (goodGd.none (f := f0) (p := p0) (by omega) (by omega))
      go_wp2_with fail
      refine (between_any B cb lA ln lc 1 3 (by omega) (by omega) (by omega) hln _ HC4.out).mono ?_
      rintro e w5 ⟨mk, rfl, hm0, hm1, hg5, hc5⟩
      obtain ⟨mm, rfl⟩ := Int.eq_ofNat_of_zero_le (show 0 ≤ mk by omega)
      have hmm : 1 ≤ mm ∧ mm ≤ 3 := by omega
      have HC5 := Lib.hid hc5
      have HG5 := Lib.hid (HG4.out.trans (Gb2.one (W.heap.size + 1) hg5))
      have hs5 := HG5.out.size
      have HO5 := Lib.hid (HO4.out.same (hg5.block _ (by omega) (fun e => by injection e with e; omega)))
      have HOP5 := Lib.hid (HOP.out.keep (w' := w5) (fun b h1 h2 => HG5.out.block b h2 (by omega) (by omega)))
      have HOR5 := Lib.hid (HOR.out.keep (w' := w5) (fun b h1 h2 => HG5.out.block b h2 (by omega) (by omega)))
      have HGW := Lib.hid (hg.out.trans HG5.out)
      clear hg5 hc5 hm0 hm1 HO3 HO4 HG3 HG4 HG5 HC3 HC4 HOP HOR ho hch hf0 hf1 hp0 hp1 hg hs3 hs4
      have hs6 : W1.heap.size ≤ w5.heap.size := HGW.out.size
      go_wp2_with fail
      go_loopw [14, 15, 96] (fun a b i wr => ∃ (j : Nat) (G : Nat → Gd) (fo pr : Int) (v : Value), j ≤ mm ∧ i = .int .i64 j ∧ a = .int .i64 fo ∧ b = .int .i64 pr ∧ Hid (O4 wr (W.heap.size + 1) (.slice pA k pc) v 0) ∧ Hid (wr.ownsRow w5.heap.size 82 2 v j (numCells (gdCell G) (j * 2))) ∧ Hid (goodGd j G fo pr) ∧ Hid (Chute wr B cb lA ln lc) ∧ Hid (Gb2 w5 wr cb (W.heap.size + 1))) (fun _ _ i _ => mm - (intOf i).toNat)
      case atStart => exact ⟨0, fun _ => ⟨0, 0⟩, f0, p0, _, Nat.zero_le _, rfl, rfl, rfl, HO5, Lib.hid (World.ownsRow_nil _ _ _ _), HGD0, HC5, Lib.hid (Gb2.refl _ _ _)⟩
      case round =>
        clear HO5 HGD0 HC5
        obtain ⟨j, G, fo, pr, v, hj, rfl, rfl, rfl, HO, HOW, HGG, HCH, HG⟩ := hrel
        have hsr := HG.out.size
        obtain ⟨wy, rfl⟩ : ∃ wy, wy = wr := ⟨_, rfl⟩
        by_cases hlj : j < mm
        · have hj0 : (0 : Int) ≤ (j : Int) := by omega
          have hjn : (j : Int) < (mm : Int) := by omega
          have hvV := HOW.out.lt
          have hgg := HGG.out.2.2.2
          obtain ⟨⟨q0, q1, q2⟩, fq0, fq1⟩ := HO.out.1
          go_wp2_with (at_builtin; refine wpList_append_lies _ rfl (.tmp 99) (.tmp 103) 23 rfl w5.heap.size 82 j0 (.agg #[.int .i64 0, .int .i64 0]) 2 16 gdsM_under ji jz0 jz1 jz2 rfl (by decide) v j (numCells (gdCell G) (j * 2)) rfl (HOW.out.alloc _) ⟨wy.heap.size, 0, none⟩ 1 1 [.int .i64 fo, .int .i64 pr] rfl rfl (new_cells (cs := [.int .i64 fo, .int .i64 pr])) (by intro u hu; simp only [List.mem_cons, List.not_mem_nil, or_false] at hu; rcases hu with rfl | rfl <;> rfl) (by omega) (by unfold maxLen; omega) (by omega) (by simp; omega) (wy.heap.size + 1) (by simp) ?_; intro gV capV wV hownV6 hgrV hatV hltV; have hzV := hgrV.size; simp only [World.size_alloc] at hzV; have hXV : Hid (∀ i, i < w5.heap.size → wV.heap[i]? = wy.heap[i]?) := Lib.hid (fun i hi => (hgrV.block i (by simp; omega) (fun e => by have := (hvV i e.symm).1; omega)).trans (Below.heap_alloc _ _ _ (by omega))); obtain ⟨⟨p0', p1', p2'⟩, fp0, fp1⟩ := (HO.out.same (hXV.out _ (by omega))).1)
          have HOS := Lib.hid ((HO.out.same (hXV.out _ (by omega))).set1 (.slice (some ⟨gV, 0, none⟩) (j + 1) capV))
          have HVS : Hid ((wV.setCell ⟨W.heap.size + 1, 1, none⟩ (.slice (some ⟨gV, 0, none⟩) (j + 1) capV)).ownsRow w5.heap.size 82 2 (.slice (some ⟨gV, 0, none⟩) (j + 1) capV) (j + 1) (numCells (gdCell (fun i => if i = j then ⟨fo, pr⟩ else G i)) ((j + 1) * 2))) := Lib.hid (by
            rw [← gdCells_put]
            exact owns_same hownV6 (fun g h1 h2 => set_heap _ (by dsimp only; omega)))
          have HCS := Lib.hid (HCH.out.keep (w' := wV.setCell ⟨W.heap.size + 1, 1, none⟩ (.slice (some ⟨gV, 0, none⟩) (j + 1) capV)) (fun i hi => (set_heap _ (by dsimp only; omega)).trans (hXV.out i (by omega))))
          have HGS : Hid (Gb2 w5 (wV.setCell ⟨W.heap.size + 1, 1, none⟩ (.slice (some ⟨gV, 0, none⟩) (j + 1) capV)) cb (W.heap.size + 1)) := Lib.hid ⟨hgrV.os.trans HG.out.os, hgrV.tape.trans HG.out.tape, hgrV.output.trans HG.out.output, by rw [setCell_sz]; omega, fun i hi h2 h3 => (set_heap _ (by dsimp only; omega)).trans ((hXV.out i hi).trans (HG.out.block i hi h2 h3))⟩
          clear hownV6 hgrV hatV hltV hXV p0' p1' p2' fp0 fp1 q0 q1 q2 fq0 fq1
          refine (between_any B cb lA ln lc 5 20 (by omega) (by omega) (by omega) hln _ HCS.out).mono ?_
          rintro e w6 ⟨x, rfl, hx0, hx1, hg6, hc6⟩
          have hs7 := hg6.size
          simp only [setCell_sz] at hs7
          have HC6 := Lib.hid hc6
          have HO6 := Lib.hid (HOS.out.same (hg6.block _ (by rw [setCell_sz]; omega) (fun e => by injection e with e; omega)))
          have HV6 := Lib.hid (owns_same HVS.out (fun g h1 h2 => hg6.block g h2 (fun e => by injection e with e; omega)))
          have HG6 := Lib.hid (HGS.out.trans (Gb2.one (W.heap.size + 1) hg6))
          have e1 : IntKind.i64.wrap (fo + x) = fo + x := IntWalk.i64_in _ (by omega)
          clear hg6 hc6 HOS HVS HCS HGS
          go_wp2_with fail
          refine (between_any B cb lA ln lc 5 13 (by omega) (by omega) (by omega) hln _ HC6.out).mono ?_
          rintro e w7 ⟨y, rfl, hy0, hy1, hg7, hc7⟩
          have HC7 := Lib.hid hc7
          have HO7 := Lib.hid (HO6.out.same (hg7.block _ (by omega) (fun e => by injection e with e; omega)))
          have HV7 := Lib.hid (owns_same HV6.out (fun g h1 h2 => hg7.block g h2 (fun e => by injection e with e; omega)))
          have HG7 := Lib.hid (HG6.out.trans (Gb2.one (W.heap.size + 1) hg7))
          have HGN := Lib.hid (HGG.out.put (x := x) (y := y) (by omega) (by omega))
          have e2 : IntKind.i64.wrap (pr - y) = pr - y := IntWalk.i64_in _ (by omega)
          clear hg7 hc7 HO6 HV6 HC6 HG6 hx0 hx1 hy0 hy1 hgg
          go_wp2_with fail
          refine ⟨?_, ?measure⟩
          case measure => simp [intOf]; omega
          exact ⟨j + 1, _, _, _, _, by omega, by go_num, rfl, rfl, HO7, HV7, HGN, HC7, HG7⟩
        · obtain rfl : j = mm := by omega
          have hge2 : ¬ (j : Int) < (j : Int) := by omega
          obtain ⟨gA, gc, rfl, hog, hgc⟩ := OwnGd.of_ownsT (P := G) HOW.out
          have HOG := Lib.hid hog
          clear hog HOW
          go_wp2_with fail
          refine (between_any B cb lA ln lc 1 3 (by omega) (by omega) (by omega) hln _ HCH.out).mono ?_
          rintro e w8 ⟨lo, rfl, hl0, hl1, hg8, hc8⟩
          have HC8 := Lib.hid hc8
          have HO8 := Lib.hid (HO.out.same (hg8.block _ (by omega) (fun e => by injection e with e; omega)))
          have HOG8 := Lib.hid (HOG.out.keep (w' := w8) (fun b h1 h2 => hg8.block b h2 (fun e => by injection e with e; omega)))
          have HG8 := Lib.hid (HG.out.trans (Gb2.one (W.heap.size + 1) hg8))
          have hs8 := HG8.out.size
          have HT8 := Lib.hid (HT1.out.same ((HGW.out.trans HG8.out).block W.heap.size (by omega) (by omega) (by omega)))
          have HOP8 := Lib.hid (HOP5.out.keep (w' := w8) (fun b h1 h2 => HG8.out.block b h2 (by omega) (by omega)))
          have HOR8 := Lib.hid (HOR5.out.keep (w' := w8) (fun b h1 h2 => HG8.out.block b h2 (by omega) (by omega)))
          have HGA := Lib.hid (HGW.out.trans HG8.out)
          clear hg8 hc8 HO HG HCH HOG HOP5 HOR5
          have HF : Hid (∀ w', (∀ i, i ≠ W.heap.size → i ≠ W.heap.size + 1 → w'.heap[i]? = w8.heap[i]?) → w'.heap.size = w8.heap.size → w'.os = w8.os → w'.tape = w8.tape → w'.output = w8.output →
              OwnPk w' W.heap.size pA k P ∧ OwnGd w' W.heap.size gA j G ∧ OwnInt w' W.heap.size rA k R ∧ W.grownBy w' (some cb) ∧ Chute w' B cb lA ln lc) := Lib.hid (fun w' hk hsz ho ht hu => by
            refine ⟨(HOP8.out.keep (fun b h1 h2 => hk b (by omega) (by omega))).mono (by omega), (HOG8.out.keep (fun b h1 h2 => hk b (by omega) (by omega))).mono (by omega), fun i hi => ?_, ⟨ho.trans (HGA.out.os.trans HB1.out.os), ht.trans (HGA.out.tape.trans HB1.out.tape), hu.trans (HGA.out.output.trans HB1.out.output), by have := HGA.out.size; have := HB1.out.size; omega, fun i hi hn => (hk i (by omega) (by omega)).trans ((HGA.out.block i (by have := HB1.out.size; omega) (fun e => hn (by rw [e])) (by omega)).trans (HB1.out.block i hi))⟩, HC8.out.keep (fun i hi => hk i (by omega) (by omega))⟩
            obtain ⟨b, h1, h2, h3⟩ := (HOR8.out.keep (w' := w') (fun b h1 h2 => hk b (by omega) (by omega))) i hi
            exact ⟨b, h1, by omega, h3⟩)
          obtain ⟨⟨q0, q1, q2⟩, fq0, fq1⟩ := HO8.out.1
          have fq2 := HO8.out.2
          obtain ⟨⟨t0, t1, t2⟩, ft0, ft1, ft2⟩ := HT8.out
          go_wp2_with fail
          have h := HF.out ((((w8.setCell ⟨W.heap.size + 1, 2, none⟩ (.int .i64 lo)).setCell ⟨W.heap.size, 0, none⟩ (.slice pA k pc)).setCell ⟨W.heap.size, 1, none⟩ (.slice gA j gc)).setCell ⟨W.heap.size, 2, none⟩ (.int .i64 lo)) (fun i h1 h2 => (set_heap _ (by exact h1)).trans ((set_heap _ (by exact h1)).trans ((set_heap _ (by exact h1)).trans (set_heap _ (by exact h2))))) (by simp only [setCell_sz]) rfl rfl rfl
          have hx1 : Hid (1 ≤ k ∧ (k : Int) ≤ np) := Lib.hid (by omega)
          have hne : W.heap.size + 1 ≠ W.heap.size := by omega
          refine bodyPost_ret (v := .tuple #[stV pA k pc gA j gc lo, .slice rA k rc]) ?_ rfl ⟨⟨k, P, j, G, lo⟩, R, pA, gA, rA, pc, gc, rc, rfl, hx1.out, hmm, by dsimp only; omega, hgood.out, ⟨fo, pr, HGG.out⟩, h.1, h.2.1, h.2.2.1, hpc, hgc, hrc, h.2.2.2.1, h.2.2.2.2⟩
          clear h
          exact (by simp (maxDischargeDepth := 9) [results, Try.results38, go_sem, t0, t1, t2, stV, hne])
end Go.Proofs.Ytegmomappbehcaa

set_option linter.unusedSimpArgs false
set_option linter.unusedVariables false
namespace Go.Proofs.Ytegmomappbehcaa
open Go.RowKit Go.Shelf

/-- what truth gives -/
def TruthPost (st : St) (X F : Nat → Int) (B cb : Nat) (lA : Option Addr) (ln lc : Nat) (W : World) (e : Ending) (W' : World) : Prop :=
  ∃ (A : Option Addr) (c : Nat) (Y : Nat → Int), e = .returned (.slice A st.n c) ∧ OwnInt W' W.heap.size A st.n Y ∧ st.n ≤ c ∧ (∀ k, k < st.n → max 0 (F k - ((st.P k).s - X k)) ≤ Y k ∧ Y k ≤ min (X k) (F k)) ∧ W.grownBy W' (some cb) ∧ Chute W' B cb lA ln lc

set_option maxRecDepth 100000 in
set_option maxHeartbeats 4000000 in
theorem truth_any (st : St) (B R cb : Nat) (lA : Option Addr) (ln lc : Nat) (hln : ln ≤ 9223372036854775807) (pA gA : Option Addr) (pc gc : Nat) (xA : Option Addr) (xc : Nat) (X : Nat → Int) (fA : Option Addr) (fc : Nat) (F : Nat → Int) (W : World) (hs : StRow W R st pA pc gA gc) (hne : ∀ a, pA = some a → a.block ≠ cb) (hn : st.n ≤ 4) (hsx : ∀ k, k < st.n → 0 ≤ (st.P k).s ∧ (st.P k).s ≤ 6)
    (hx : IntRow W W.heap.size xA st.n X) (hxne : ∀ a, xA = some a → a.block ≠ cb) (hf : IntRow W W.heap.size fA st.n F) (hfne : ∀ a, fA = some a → a.block ≠ cb) (hxx : ∀ k, k < st.n → 0 ≤ X k ∧ X k ≤ (st.P k).s) (hff : ∀ k, k < st.n → 0 ≤ F k ∧ F k ≤ (st.P k).s)
    (hB : B ≤ W.heap.size) (hcb : cb < W.heap.size) (hc : Chute W B cb lA ln lc) :
    Calls Try.prog 40 #[.pointer (some ⟨cb, 0, none⟩), stV pA st.n pc gA st.m gc st.lots, .slice xA st.n xc, .slice fA st.n fc] W (TruthPost st X F B cb lA ln lc W) := by
  have HS := Lib.hid hs
  have HC := Lib.hid hc
  have HNE := Lib.hid hne
  have HX := Lib.hid hsx
  have HRX := Lib.hid hx
  have HNX := Lib.hid hxne
  have HRF := Lib.hid hf
  have HNF := Lib.hid hfne
  have HXX := Lib.hid hxx
  have HFF := Lib.hid hff
  have hR := hs.lt
  clear hs hc hne hsx hx hxne hf hfne hxx hff
  obtain ⟨i0, hi, hz0, hz1, hz2⟩ := info_parts infoInt
  go_enter Try.func40, Try.ntmps40
  go_wp2_with fail
  have hba : Below W.heap.size W (W.alloc (.cells #[.slice pA st.n pc, .slice gA st.m gc, .int .i64 st.lots] 25)) := (by repeat (first | (with_reducible exact Below.refl _ _) | (with_reducible refine Below.drew ?_) | (with_reducible refine below_drewN ?_ _) | ((with_reducible refine below_alloc ?_ ?_ _); · (first | exact Nat.le_refl _ | omega | (simp; done) | (simp; omega) | (simp at *; omega))) | ((with_reducible refine below_set ?_ ?_ _); · (first | exact Nat.le_refl _ | omega | (simp; done) | (simp; omega) | (simp at *; omega))) | ((with_reducible refine below_via (by with_reducible assumption) ?_ ?_); · (first | exact Nat.le_refl _ | omega | (simp; done) | (simp; omega) | (simp at *; omega)))))
  have HC1 := Lib.hid (HC.out.later hba)
  have HG1 := Lib.hid (gb_of_below cb hba)
  clear hba
  go_loopw [9, 15] (fun v i wr => ∃ (k : Nat) (Y : Nat → Int), k ≤ st.n ∧ i = .int .i64 k ∧ Hid (wr.ownsRow W.heap.size 3 1 v k (numCells Y k)) ∧ Hid (∀ j, j < k → max 0 (F j - ((st.P j).s - X j)) ≤ Y j ∧ Y j ≤ min (X j) (F j)) ∧ Hid (Chute wr B cb lA ln lc) ∧ Hid (W.grownBy wr (some cb))) (fun _ i _ => st.n - (intOf i).toNat)
  case atStart => exact ⟨0, fun _ => 0, Nat.zero_le _, rfl, Lib.hid (World.ownsRow_nil _ _ _ _), Lib.hid (fun j hj => absurd hj (by omega)), HC1, HG1⟩
  case round =>
    clear HC1 HG1
    obtain ⟨k, Y, hk, rfl, hown, hys, hch, hg⟩ := hrel
    have hsw := hg.out.size
    by_cases hlt : k < st.n
    · obtain ⟨b, o, rfl, hbl, d0, d1, d2, d3⟩ := HS.out.p k hlt
      obtain ⟨xb, xo, rfl, hxl, dx⟩ := HRX.out k hlt
      obtain ⟨fb, fo, rfl, hfl, df⟩ := HRF.out k hlt
      have hnb : b ≠ cb := HNE.out _ rfl
      have hnx : xb ≠ cb := HNX.out _ rfl
      have hnf : fb ≠ cb := HNF.out _ rfl
      have hkb : wr.heap[b]? = W.heap[b]? := hg.out.block b (by omega) (fun e => by injection e with e; omega)
      have c0 := cell_same hkb d0
      have c1 := cell_same hkb d1
      have c2 := cell_same hkb d2
      have c3 := cell_same hkb d3
      have cx := cell_same (hg.out.block xb (by omega) (fun e => by injection e with e; omega)) dx
      have cf := cell_same (hg.out.block fb (by omega) (fun e => by injection e with e; omega)) df
      have hs6 := HX.out k hlt
      have hx6 := HXX.out k hlt
      have hf6 := HFF.out k hlt
      have hk0 : (0 : Int) ≤ (k : Int) := by omega
      have hkn : (k : Int) < (st.n : Int) := by omega
      have e1 : IntKind.i64.wrap ((st.P k).s - X k) = (st.P k).s - X k := IntWalk.i64_in _ (by omega)
      have e2 : IntKind.i64.wrap (F k - ((st.P k).s - X k)) = F k - ((st.P k).s - X k) := IntWalk.i64_in _ (by omega)
      have hv1 := hown.out.lt
      have hba : Below wr.heap.size wr (wr.alloc (.cells #[.int .i64 (st.P k).s, .int .i64 (st.P k).w, .int .i64 (st.P k).o, .int .i64 (st.P k).f] 75)) := (by repeat (first | (with_reducible exact Below.refl _ _) | (with_reducible refine Below.drew ?_) | (with_reducible refine below_drewN ?_ _) | ((with_reducible refine below_alloc ?_ ?_ _); · (first | exact Nat.le_refl _ | omega | (simp; done) | (simp; omega) | (simp at *; omega))) | ((with_reducible refine below_set ?_ ?_ _); · (first | exact Nat.le_refl _ | omega | (simp; done) | (simp; omega) | (simp at *; omega))) | ((with_reducible refine below_via (by with_reducible assumption) ?_ ?_); · (first | exact Nat.le_refl _ | omega | (simp; done) | (simp; omega) | (simp at *; omega)))))
      have HCA := Lib.hid (hch.out.later hba)
      clear d0 d1 d2 d3 dx df hkb hba
      go_upto_region 5 with fail
      go_region_held_law (fun w' => w'.cell? ⟨wr.heap.size, 0, none⟩ = some (.int .i64 (st.P k).s) ∧ w'.cell? ⟨xb, xo + k, none⟩ = some (.int .i64 (X k)) ∧ w'.cell? ⟨fb, fo + k, none⟩ = some (.int .i64 (F k))) (first | (go_split_ands; (refine ⟨?_, ?_, ?_⟩ <;> (refine (hg3.cell_far _ ?_ ?_).trans ?_; (· (first | omega | (simp only [World.size_alloc, World.size_drew]; omega) | (simp; done) | (simp; omega))); (· (intro e; injection e with e; (try dsimp only at e); omega)); (· (repeat (first | (with_reducible assumption) | (simp; done) | (with_reducible refine cell_drew_of ?_) | (with_reducible refine cell_drewN_of ?_) | (with_reducible refine cell_below_of (by with_reducible assumption) ?_) | ((with_reducible refine cell_new_of ?_ ?_) <;> (first | (with_reducible rfl) | (simp; done))) | ((with_reducible refine fro_new_of ?_) <;> (first | (with_reducible rfl) | (simp; done))) | (with_reducible refine cell_alloc_of _ ?_) | (with_reducible refine cell_set_of _ (by (first | exact Nat.le_refl _ | omega | (simp; done) | (simp; omega))) ?_) | (with_reducible refine fro_drew_of ?_) | (with_reducible refine fro_drewN_of ?_) | (with_reducible refine fro_below_of (by with_reducible assumption) (by (first | exact Nat.le_refl _ | omega | (simp; done) | (simp; omega))) ?_) | (with_reducible refine fro_alloc_of _ (by (first | exact Nat.le_refl _ | omega | (simp; done) | (simp; omega))) ?_) | (with_reducible refine fro_set_of _ ?_)))))); done) | (go_split_ands; (refine ⟨?_, ?_, ?_⟩ <;> (refine (hgr6.cell_far _ ?_ ?_).trans ?_; (· (first | omega | (simp only [World.size_alloc, World.size_drew]; omega) | (simp; done) | (simp; omega))); (· (intro e; have := hv1 _ e.symm; (try dsimp only at this); omega)); (· (repeat (first | (with_reducible assumption) | (simp; done) | (with_reducible refine cell_drew_of ?_) | (with_reducible refine cell_drewN_of ?_) | (with_reducible refine cell_below_of (by with_reducible assumption) ?_) | ((with_reducible refine cell_new_of ?_ ?_) <;> (first | (with_reducible rfl) | (simp; done))) | ((with_reducible refine fro_new_of ?_) <;> (first | (with_reducible rfl) | (simp; done))) | (with_reducible refine cell_alloc_of _ ?_) | (with_reducible refine cell_set_of _ (by (first | exact Nat.le_refl _ | omega | (simp; done) | (simp; omega))) ?_) | (with_reducible refine fro_drew_of ?_) | (with_reducible refine fro_drewN_of ?_) | (with_reducible refine fro_below_of (by with_reducible assumption) (by (first | exact Nat.le_refl _ | omega | (simp; done) | (simp; omega))) ?_) | (with_reducible refine fro_alloc_of _ (by (first | exact Nat.le_refl _ | omega | (simp; done) | (simp; omega))) ?_) | (with_reducible refine fro_set_of _ ?_)))))); done) | ((go_split_ands; (repeat' refine And.intro ?_ ?_) <;> (repeat (first | (with_reducible assumption) | (simp; done) | (with_reducible refine cell_drew_of ?_) | (with_reducible refine cell_drewN_of ?_) | (with_reducible refine cell_below_of (by with_reducible assumption) ?_) | ((with_reducible refine cell_new_of ?_ ?_) <;> (first | (with_reducible rfl) | (simp; done))) | ((with_reducible refine fro_new_of ?_) <;> (first | (with_reducible rfl) | (simp; done))) | (with_reducible refine cell_alloc_of _ ?_) | (with_reducible refine cell_set_of _ (by (first | exact Nat.le_refl _ | omega | (simp; done) | (simp; omega))) ?_) | (with_reducible refine fro_drew_of ?_) | (with_reducible refine fro_drewN_of ?_) | (with_reducible refine fro_below_of (by with_reducible assumption) (by (first | exact Nat.le_refl _ | omega | (simp; done) | (simp; omega))) ?_) | (with_reducible refine fro_alloc_of _ (by (first | exact Nat.le_refl _ | omega | (simp; done) | (simp; omega))) ?_) | (with_reducible refine fro_set_of _ ?_)))))) (first | (go_at_call 43; refine (between_any B cb lA ln lc _ _ (by omega) (by omega) (by omega) hln _ (HCA.out.later (by repeat (first | (with_reducible exact Below.refl _ _) | (with_reducible assumption) | (with_reducible refine Below.drew ?_) | ((with_reducible refine below_alloc ?_ ?_ _); (· (first | exact Nat.le_refl _ | omega | (dsimp only; omega) | (simp only [World.size_alloc, World.size_drew, World.heap_drewN]; omega) | (simp; omega)))) | ((with_reducible refine below_set ?_ ?_ _); (· (first | exact Nat.le_refl _ | omega | (dsimp only; omega) | (simp only [World.size_alloc, World.size_drew, World.heap_drewN]; omega) | (simp; omega)))) | ((with_reducible refine below_via (by with_reducible assumption) ?_ ?_); (· (first | exact Nat.le_refl _ | omega | (dsimp only; omega) | (simp only [World.size_alloc, World.size_drew, World.heap_drewN]; omega) | (simp; omega)))))))).mono ?_; rintro e w3 ⟨x, rfl, hx0, hx1, hg3, hc3⟩; have hz3 := hg3.size; (try simp only [World.size_drew, World.heap_drewN, World.size_alloc] at hz3)) | (refine step_append_lies _ (by rfl) (.tmp 20) (.tmp 45) 26 (by rfl) W.heap.size 3 i0 (.int .i64 0) 1 8 ints_under hi hz0 hz1 hz2 (by rfl) (by decide) u9 k (numCells Y k) (by rfl) ((own_keep (owns_later hown.out (show Below wr.heap.size wr _ from (by repeat (first | (with_reducible exact Below.refl _ _) | (with_reducible assumption) | (with_reducible refine Below.drew ?_) | ((with_reducible refine below_alloc ?_ ?_ _); (· (first | exact Nat.le_refl _ | omega | (dsimp only; omega) | (simp only [World.size_alloc, World.size_drew, World.heap_drewN]; omega) | (simp; omega)))) | ((with_reducible refine below_set ?_ ?_ _); (· (first | exact Nat.le_refl _ | omega | (dsimp only; omega) | (simp only [World.size_alloc, World.size_drew, World.heap_drewN]; omega) | (simp; omega)))) | ((with_reducible refine below_via (by with_reducible assumption) ?_ ?_); (· (first | exact Nat.le_refl _ | omega | (dsimp only; omega) | (simp only [World.size_alloc, World.size_drew, World.heap_drewN]; omega) | (simp; omega)))))))) hg3 hcb).alloc _) ⟨w3.heap.size, 0, none⟩ 1 1 [.int .i64 x] (by rfl) rfl (fun jj uu hjj => new_cells (w := w3) (t := 3) (cs := [.int .i64 x]) jj uu hjj) (by intro u hu; simp only [List.mem_cons, List.not_mem_nil, or_false] at hu; subst hu; rfl) (by omega) (by unfold maxLen; omega) (by omega) (by (first | omega | (simp only [World.size_alloc, World.size_drew]; omega) | (simp; done) | (simp; omega))) (w3.heap.size + 1) (by simp) ?_; intro g cap w6 hown6 hgr6 hat6 hlt6) | fail)
      all_goals
        have hxy : max 0 (F k - ((st.P k).s - X k)) ≤ x ∧ x ≤ min (X k) (F k) := by omega
        have HO6 : Hid (w6.ownsRow W.heap.size 3 1 (.slice (some ⟨g, 0, none⟩) (k + 1) cap) (k + 1) (numCells (fun j => if j = k then x else Y j) (k + 1))) := Lib.hid (by rw [← numCells_put]; exact hown6)
        have HY6 : Hid (∀ j, j < k + 1 → max 0 (F j - ((st.P j).s - X j)) ≤ (if j = k then x else Y j) ∧ (if j = k then x else Y j) ≤ min (X j) (F j)) := Lib.hid (fun j hj => by
          by_cases e : j = k
          · subst e; rw [if_pos rfl]; exact hxy
          · rw [if_neg e]; exact hys.out j (by omega))
        have hg3' : wr.grownBy w3 (some cb) := gb_trans (gb_of_below cb (show Below wr.heap.size wr _ from (by repeat (first | (with_reducible exact Below.refl _ _) | (with_reducible assumption) | (with_reducible refine Below.drew ?_) | ((with_reducible refine below_alloc ?_ ?_ _); (· (first | exact Nat.le_refl _ | omega | (dsimp only; omega) | (simp only [World.size_alloc, World.size_drew, World.heap_drewN]; omega) | (simp; omega)))) | ((with_reducible refine below_set ?_ ?_ _); (· (first | exact Nat.le_refl _ | omega | (dsimp only; omega) | (simp only [World.size_alloc, World.size_drew, World.heap_drewN]; omega) | (simp; omega)))) | ((with_reducible refine below_via (by with_reducible assumption) ?_ ?_); (· (first | exact Nat.le_refl _ | omega | (dsimp only; omega) | (simp only [World.size_alloc, World.size_drew, World.heap_drewN]; omega) | (simp; omega)))))))) hg3
        have hkeep : ∀ i, i < W.heap.size → w6.heap[i]? = w3.heap[i]? := fun i hi => (hgr6.block i (by simp; omega) (fun e => by have := (hv1 i e.symm).1; omega)).trans (Below.heap_alloc _ _ _ (by omega))
        have HC6 : Hid (Chute w6 B cb lA ln lc) := Lib.hid (hc3.keep (fun i hi => hkeep i (by omega)))
        have HG6 : Hid (W.grownBy w6 (some cb)) := Lib.hid ⟨hgr6.os.trans (hg3'.os.trans hg.out.os), hgr6.tape.trans (hg3'.tape.trans hg.out.tape), hgr6.output.trans (hg3'.output.trans hg.out.output), by have := hgr6.size; simp at this; omega, fun i hi hn => (hkeep i hi).trans ((hg3'.block i (by omega) hn).trans (hg.out.block i hi hn))⟩
        clear hown6 hgr6 hat6 hlt6 hkeep hg3 hg3' hc3 c0 c1 c2 c3 cx cf hx0 hx1
        go_wp2_with fail
        go_roundw
        case rel => exact ⟨k + 1, _, by omega, by go_num, HO6, HY6, HC6, HG6⟩
        case measure => simp [intOf]; omega
    · obtain rfl : k = st.n := by omega
      have hge : ¬ (st.n : Int) < (st.n : Int) := by omega
      obtain ⟨A, c, rfl, hr, hcl⟩ := ownInt_of hown.out
      have HR := Lib.hid hr
      clear hr
      go_wp2_with fail
      go_ret
      exact ⟨A, c, Y, rfl, HR.out, hcl, hys.out, hg.out, hch.out⟩
end Go.Proofs.Ytegmomappbehcaa

set_option linter.unusedSimpArgs false
set_option linter.unusedVariables false
namespace Go.Proofs.Ytegmomappbehcaa
open Go.ChangeShapes Go.WideShapes Go.ChangeAt Go.RowKit Go.Deep Go.Joins

section
variable {H : Type} {enc : TypeId × Value → H} {w : World} {base : Nat} {spare : Nat → Bool} {held : Bool}

set_option maxRecDepth 100000 in
theorem open_bytes {fuel : Nat} {v : Value} {x : DataW H × List MemPlace} (h : DataW.trod enc Try.prog w base spare held fuel 63 [v] = some x) : ∃ A n c, v = .slice A n c ∧ ByIn w w.heap.size A n ∧ n ≤ maxLen := by
  rcases open_slice (e := 5) Try.underlying63 h with ⟨h0, _⟩ | ⟨a, len, cap, m, n, D, Pl, hcs, hb, hl, hm, hmm, hx, hi⟩
  · injection h0 with h0
    exact ⟨none, 0, 0, h0, fun k hk => absurd hk (by omega), Nat.zero_le _⟩
  · injection hcs with hcs
    have each : ∀ i, i < len → ∃ z, w.cell? (a.add i) = some (.int .u8 z) ∧ 0 ≤ z ∧ z ≤ 255 := fun k hk => by
      have him : k < m := by rw [hmm]; split <;> omega
      obtain ⟨cs', hc, ht'⟩ := hi k him
      rw [show Try.prog.cellsOf 5 = 1 by kernel_rfl, Nat.mul_one] at hc
      obtain ⟨_, hcl, hat⟩ := World.cells?_some hc
      obtain ⟨z, hz, hw⟩ := DataW.trod_int Try.underlying5 ht'
      have hcell := hat 0 (by omega)
      rw [hz] at hcell
      exact ⟨z, by simpa [Addr.add] using hcell, bounds_u8 hw.2⟩
    refine ⟨some a, len, cap, hcs, fun k hk => ?_, by omega⟩
    obtain ⟨z, hc0, hz⟩ := each k hk
    have hsp : a.spot = none := by
      obtain ⟨z0, h10, _⟩ := each 0 (by omega)
      simpa [Addr.add] using World.cell?_spot h10
    obtain ⟨b, o, sp⟩ := a
    simp only at hsp
    subst hsp
    have e : ∀ j, (⟨b, o, none⟩ : Addr).add j = ⟨b, o + j, none⟩ := fun j => Addr.add_lit _ _ _
    exact ⟨b, o, z, rfl, by have := World.block_lt_of_cell? w _ hc0; rw [e] at this; exact this, (congrArg w.cell? (e k)).symm.trans hc0, hz⟩
end
end Go.Proofs.Ytegmomappbehcaa

set_option linter.unusedSimpArgs false
set_option linter.unusedVariables false
namespace Go.Proofs.Ytegmomappbehcaa

theorem made_ok {st : St} {R : Nat → Int} {most f p : Int} (hn : 1 ≤ st.n ∧ st.n ≤ 4) (hm : 1 ≤ st.m ∧ st.m ≤ 3) (hl : 1 ≤ st.lots ∧ st.lots ≤ 3) (hmost : most ≤ 6) (hg : ∀ k, k < st.n → goodPk most (st.P k) (R k)) (hd : goodGd st.m st.G f p) : st.ok := by
  refine ⟨hn.1, hn.2, by omega, fun k hk => ?_, fun k hk => ?_, by omega, hl.2, fun k hk => hd.2.1 k hk, fun k hk => ?_⟩
  · have h := hg k hk
    unfold goodPk at h
    unfold Pk.rng
    omega
  · have h := hd.1 k hk
    unfold Gd.rng
    omega
  · have h := hg k hk
    unfold goodPk at h
    unfold Pk.hi
    omega
/-- what is really foul can be -/
theorem made_real {st : St} {R : Nat → Int} {most : Int} (hg : ∀ k, k < st.n → goodPk most (st.P k) (R k)) : ∀ k, k < st.n → (st.P k).f ≤ R k ∧ R k ≤ (st.P k).hi := fun k hk => by
  have h := hg k hk
  unfold goodPk at h
  unfold Pk.hi
  omega
theorem lot_ask {st : St} {X : Nat → Int} (hst : st.ok) (h : ∀ k, k < st.n → 0 ≤ X k ∧ X k ≤ (st.P k).s) : st.askErr st.n X = 0 := by
  unfold St.askErr
  rw [if_neg (by simp [St.check_ok.2 hst])]
  unfold St.lotErr
  rw [if_neg (by simp), if_neg]
  rw [allN_iff.2 (fun k hk => by
    have h1 := h k hk
    simp [inB]; omega)]
  decide
theorem bag_sum {st : St} {X : Nat → Int} (h4 : st.n ≤ 4) : sumN X st.n = (bagOf X st.n).size := (bagOf_size h4).symm
theorem hi_sum {st : St} {X : Nat → Int} (h4 : st.n ≤ 4) : sumN (fun k => (st.P k).hiOf (X k)) st.n = st.hi (bagOf X st.n) :=
  sumN_congr (fun k hk => by rw [bagOf_at hk (by omega)])
end Go.Proofs.Ytegmomappbehcaa

set_option linter.unusedSimpArgs false
set_option linter.unusedVariables false
namespace Go.Proofs.Ytegmomappbehcaa
open Go.RowKit Go.Shelf

/-- a made store in its box, and a later chute -/
structure MAt (W w : World) (B cb : Nat) (st : St) (bx : Nat) (pA gA : Option Addr) (pc gc : Nat) (tA : Option Addr) (tn tc : Nat) : Prop where
  s : StAt w bx pA st.n pc gA st.m gc st.lots
  r : StRow w B st pA pc gA gc
  c : Chute w W.heap.size cb tA tn tc
  b : Below W.heap.size W w
  hb : bx < B
  hB : B ≤ cb
  hW : W.heap.size ≤ B
  hc : cb < w.heap.size
theorem MAt.later {W w w' : World} {B cb : Nat} {st : St} {b : Nat} {pA gA : Option Addr} {pc gc : Nat} {tA : Option Addr} {tn tc : Nat} (h : MAt W w B cb st b pA gA pc gc tA tn tc) (hb : Below w.heap.size w w') : MAt W w' B cb st b pA gA pc gc tA tn tc :=
  ⟨h.s.later hb, h.r.later (hb.mono h.r.lt), h.c.later hb, h.b.trans (hb.mono h.b.size), h.hb, h.hB, h.hW, Nat.lt_of_lt_of_le h.hc hb.size⟩
theorem MAt.keep {W w w' : World} {B cb : Nat} {st : St} {b : Nat} {pA gA : Option Addr} {pc gc : Nat} {tA : Option Addr} {tn tc : Nat} (h : MAt W w B cb st b pA gA pc gc tA tn tc) (hg : w.grownBy w' (some cb)) (hc : Chute w' W.heap.size cb tA tn tc) : MAt W w' B cb st b pA gA pc gc tA tn tc :=
  ⟨h.s.same (hg.block b h.s.lt (fun e => by injection e with e; have := h.hb; have := h.hB; omega)), h.r.later (gb_below hg h.r.lt h.hB), hc, h.b.trans (gb_below hg h.b.size (Nat.le_trans h.hW h.hB)), h.hb, h.hB, h.hW, Nat.lt_of_lt_of_le h.hc hg.size⟩

theorem OwnInt.put {w : World} {lo n b : Nat} {X : Nat → Int} (h : OwnInt w lo (some ⟨b, 0, none⟩) n X) {i : Nat} (hi : i < n) (v : Int) : OwnInt (w.setCell ⟨b, i, none⟩ (.int .i64 v)) lo (some ⟨b, 0, none⟩) n (fun t => if t = i then v else X t) := fun k hk => by
  obtain ⟨_, hA, hl, c0, hf⟩ := h k hk
  injection hA with hA
  injection hA with hA
  subst hA
  refine ⟨b, rfl, hl, ?_, fun j => fro_set_of _ (hf j)⟩
  dsimp only
  by_cases hki : k = i
  · subst hki
    rw [if_pos rfl]
    exact World.cell?_setCell_same' _ _ _ (by rw [c0]; rfl)
  · rw [if_neg hki, World.cell?_setCell_other _ _ _ _ (by intro e; injection e with _ e _; omega)]
    exact c0
theorem OwnInt.congr {w : World} {lo n : Nat} {A : Option Addr} {X Y : Nat → Int} (h : OwnInt w lo A n X) (e : ∀ k, k < n → X k = Y k) : OwnInt w lo A n Y := fun k hk => by
  obtain ⟨b, hA, hl, c0, hf⟩ := h k hk
  rw [e k hk] at c0
  exact ⟨b, hA, hl, c0, hf⟩
theorem OwnInt.raise {w : World} {lo n b : Nat} {X : Nat → Int} (h : OwnInt w lo (some ⟨b, 0, none⟩) n X) {i : Nat} (hi : i < n) (e : Int) : OwnInt (w.setCell ⟨b, i, none⟩ (.int .i64 (X i + e))) lo (some ⟨b, 0, none⟩) n (fun t => if t = i then X t + e else X t) :=
  (h.put hi (X i + e)).congr (fun k _ => by by_cases hk : k = i <;> simp [hk])
theorem OwnInt.low {w : World} {lo lo' n : Nat} {A : Option Addr} {X : Nat → Int} (h : OwnInt w lo A n X) (hl : lo' ≤ lo) : OwnInt w lo' A n X := fun k hk => by
  obtain ⟨b, hA, h1, h2⟩ := h k hk
  exact ⟨b, hA, Nat.le_trans hl h1, h2⟩
/-- a made store, a later chute, and a lot -/
structure LAt (W w : World) (B cb lo : Nat) (st : St) (bx : Nat) (pA gA : Option Addr) (pc gc : Nat) (tA : Option Addr) (tn tc : Nat) (lA : Option Addr) (Y : Nat → Int) : Prop where
  m : MAt W w B cb st bx pA gA pc gc tA tn tc
  l : OwnInt w lo lA st.n Y
  h : cb < lo
theorem LAt.later {W w w' : World} {B cb lo : Nat} {st : St} {b : Nat} {pA gA : Option Addr} {pc gc : Nat} {tA : Option Addr} {tn tc : Nat} {lA : Option Addr} {Y : Nat → Int} (h : LAt W w B cb lo st b pA gA pc gc tA tn tc lA Y) (hb : Below w.heap.size w w') : LAt W w' B cb lo st b pA gA pc gc tA tn tc lA Y :=
  ⟨h.m.later hb, h.l.later hb, h.h⟩
theorem LAt.keep {W w w' : World} {B cb lo : Nat} {st : St} {b : Nat} {pA gA : Option Addr} {pc gc : Nat} {tA : Option Addr} {tn tc : Nat} {lA : Option Addr} {Y : Nat → Int} (h : LAt W w B cb lo st b pA gA pc gc tA tn tc lA Y) (hg : w.grownBy w' (some cb)) (hc : Chute w' W.heap.size cb tA tn tc) : LAt W w' B cb lo st b pA gA pc gc tA tn tc lA Y :=
  ⟨h.m.keep hg hc, h.l.keep (fun i h1 h2 => hg.block i h2 (fun e => by injection e with e; have := h.h; omega)), h.h⟩
theorem Chute.lt {w : World} {B cb : Nat} {lA : Option Addr} {ln lc : Nat} (h : Chute w B cb lA ln lc) : cb < w.heap.size := by
  obtain ⟨u, z, _, h⟩ := h
  exact h.lt
theorem Chute.over {w w' : World} {B cb lo : Nat} {lA : Option Addr} {ln lc : Nat} (h : Chute w B cb lA ln lc) (h1 : B ≤ lo) (h2 : cb < lo) (hb : Below lo w w') : Chute w' B cb lA ln lc :=
  h.keep (fun i hi => hb.block i (by omega))
theorem StAt.over {w w' : World} {b lo : Nat} {pA : Option Addr} {n pc : Nat} {gA : Option Addr} {m gc : Nat} {l : Int} (h : StAt w b pA n pc gA m gc l) (hlo : b < lo) (hb : Below lo w w') : StAt w' b pA n pc gA m gc l := h.same (hb.block b hlo)
/-- what is written above all of it leaves it -/
theorem MAt.over {W w w' : World} {B cb lo : Nat} {st : St} {b : Nat} {pA gA : Option Addr} {pc gc : Nat} {tA : Option Addr} {tn tc : Nat} (h : MAt W w B cb st b pA gA pc gc tA tn tc) (hlo : cb < lo) (hb : Below lo w w') (hs : w.heap.size ≤ w'.heap.size) : MAt W w' B cb st b pA gA pc gc tA tn tc := by
  have h1 := h.hb
  have h2 := h.hB
  have h3 := h.hW
  exact ⟨h.s.over (by omega) hb, h.r.later (hb.mono (by omega)), h.c.over (by omega) hlo hb, h.b.trans (hb.mono (by omega)), h.hb, h.hB, h.hW, Nat.lt_of_lt_of_le h.hc hs⟩
end Go.Proofs.Ytegmomappbehcaa

set_option linter.unusedSimpArgs false
set_option linter.unusedVariables false
namespace Go.Proofs.Ytegmomappbehcaa

/-- the block of a number -/
def blkOf (n : Nat) : Code → Option Code
  | .block m b => match Nat.beq m n with
    | true => some (.block m b)
    | false => blkOf n b
  | .seq x y => match blkOf n x with
    | some c => some c
    | none => blkOf n y
  | .loop b => blkOf n b
  | .cond _ x y => match blkOf n x with
    | some c => some c
    | none => blkOf n y
  | .scope b => blkOf n b
  | _ => none
/-- a block of a function's body -/
def blkIn (f : Func) (n : Nat) : Code := (blkOf n (f.body.getD .skip)).getD .skip
/-- what a function's spine is from a region on -/
def fromRg (n : Nat) : Code → Code
  | .seq (.region m ops b) y => match Nat.beq m n with
    | true => .seq (.region m ops b) y
    | false => fromRg n y
  | .seq _ y => fromRg n y
  | c => c
def hdRg : Code → Code
  | .seq a _ => a
  | c => c
def tlRg : Code → Code
  | .seq _ b => b
  | c => c
end Go.Proofs.Ytegmomappbehcaa
