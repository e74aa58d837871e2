/- The laws' own helpers: Own, long, same. -/
import Derived.Test.YtegmomappbehcaaK3
import Derived.Test.YtegmomappbehcaaTd
set_option linter.unusedSimpArgs false
set_option linter.unusedVariables false
namespace Go.Proofs.Ytegmomappbehcaa
open Go.RowKit Go.Shelf

/-- what Own gives: a store of one's own -/
def OwnPost (st : St) (W : World) (e : Ending) (W' : World) : Prop :=
  Below W.heap.size W W' ∧ ∃ pA pc gA gc, e = .returned (stV pA st.n pc gA st.m gc st.lots) ∧ OwnPk W' W.heap.size pA st.n st.P ∧ OwnGd W' W.heap.size gA st.m st.G ∧ st.n ≤ pc ∧ st.m ≤ gc ∧
    ∀ b c, pA = some ⟨b, 0, none⟩ → gA = some ⟨c, 0, none⟩ → 0 < st.n → 0 < st.m → c ≠ b

set_option maxRecDepth 100000 in
set_option maxHeartbeats 2000000 in
theorem own_any (st : St) (B : Nat) (pA gA : Option Addr) (pc gc : Nat) (W : World) (hs : StRow W B st pA pc gA gc) :
    Calls Try.prog 18 #[stV pA st.n pc gA st.m gc st.lots] W (OwnPost st W) := by
  have HS := Lib.hid hs
  have hB := hs.lt
  have hn := hs.n
  have hm := hs.m
  clear hs
  go_enter Try.func18, Try.ntmps18
  go_upto_region 1 with fail
  refine wp_name (fun W1 => (W1.cell? ⟨W.heap.size, 0, none⟩ = some (.slice pA st.n pc) ∧ W1.cell? ⟨W.heap.size, 1, none⟩ = some (.slice gA st.m gc) ∧ W1.cell? ⟨W.heap.size, 2, none⟩ = some (.int .i64 st.lots)) ∧ (W1.frozen? ⟨W.heap.size, 0, none⟩ = false ∧ W1.frozen? ⟨W.heap.size, 1, none⟩ = false) ∧ Below W.heap.size W W1 ∧ W.heap.size + 1 < W1.heap.size ∧ ((W1.cell? ⟨W.heap.size + 1, 0, none⟩ = some (.slice none 0 0) ∧ W1.cell? ⟨W.heap.size + 1, 1, none⟩ = some (.slice none 0 0) ∧ W1.cell? ⟨W.heap.size + 1, 2, none⟩ = some (.int .i64 0)) ∧ W1.frozen? ⟨W.heap.size + 1, 0, none⟩ = false ∧ W1.frozen? ⟨W.heap.size + 1, 1, none⟩ = false ∧ W1.frozen? ⟨W.heap.size + 1, 2, none⟩ = false)) ⟨(by (repeat' refine And.intro ?_ ?_) <;> (repeat (first | (with_reducible assumption) | (simp; done) | (with_reducible refine cell_drew_of ?_) | (with_reducible refine cell_drewN_of ?_) | (with_reducible refine cell_below_of (by with_reducible assumption) ?_) | ((with_reducible refine cell_new_of ?_ ?_) <;> (first | (with_reducible rfl) | (simp; done))) | ((with_reducible refine fro_new_of ?_) <;> (first | (with_reducible rfl) | (simp; done))) | (with_reducible refine cell_alloc_of _ ?_) | (with_reducible refine cell_set_of _ (by (first | exact Nat.le_refl _ | omega | (simp; done) | (simp; omega))) ?_) | (with_reducible refine fro_drew_of ?_) | (with_reducible refine fro_drewN_of ?_) | (with_reducible refine fro_below_of (by with_reducible assumption) (by (first | exact Nat.le_refl _ | omega | (simp; done) | (simp; omega))) ?_) | (with_reducible refine fro_alloc_of _ (by (first | exact Nat.le_refl _ | omega | (simp; done) | (simp; omega))) ?_) | (with_reducible refine fro_set_of _ ?_)))), (by (repeat' refine And.intro ?_ ?_) <;> (repeat (first | (with_reducible assumption) | (simp; done) | (with_reducible refine cell_drew_of ?_) | (with_reducible refine cell_drewN_of ?_) | (with_reducible refine cell_below_of (by with_reducible assumption) ?_) | ((with_reducible refine cell_new_of ?_ ?_) <;> (first | (with_reducible rfl) | (simp; done))) | ((with_reducible refine fro_new_of ?_) <;> (first | (with_reducible rfl) | (simp; done))) | (with_reducible refine cell_alloc_of _ ?_) | (with_reducible refine cell_set_of _ (by (first | exact Nat.le_refl _ | omega | (simp; done) | (simp; omega))) ?_) | (with_reducible refine fro_drew_of ?_) | (with_reducible refine fro_drewN_of ?_) | (with_reducible refine fro_below_of (by with_reducible assumption) (by (first | exact Nat.le_refl _ | omega | (simp; done) | (simp; omega))) ?_) | (with_reducible refine fro_alloc_of _ (by (first | exact Nat.le_refl _ | omega | (simp; done) | (simp; omega))) ?_) | (with_reducible refine fro_set_of _ ?_)))), (by repeat (first | (with_reducible exact Below.refl _ _) | (with_reducible refine Below.drew ?_) | (with_reducible refine below_drewN ?_ _) | ((with_reducible refine below_alloc ?_ ?_ _); · (first | exact Nat.le_refl _ | omega | (simp; done) | (simp; omega) | (simp at *; omega))) | ((with_reducible refine below_set ?_ ?_ _); · (first | exact Nat.le_refl _ | omega | (simp; done) | (simp; omega) | (simp at *; omega))) | ((with_reducible refine below_via (by with_reducible assumption) ?_ ?_); · (first | exact Nat.le_refl _ | omega | (simp; done) | (simp; omega) | (simp at *; omega))))), by simp, (by (repeat' refine And.intro ?_ ?_) <;> (repeat (first | (with_reducible assumption) | (simp; done) | (with_reducible refine cell_drew_of ?_) | (with_reducible refine cell_drewN_of ?_) | (with_reducible refine cell_below_of (by with_reducible assumption) ?_) | ((with_reducible refine cell_new_of ?_ ?_) <;> (first | (with_reducible rfl) | (simp; done))) | ((with_reducible refine fro_new_of ?_) <;> (first | (with_reducible rfl) | (simp; done))) | (with_reducible refine cell_alloc_of _ ?_) | (with_reducible refine cell_set_of _ (by (first | exact Nat.le_refl _ | omega | (simp; done) | (simp; omega))) ?_) | (with_reducible refine fro_drew_of ?_) | (with_reducible refine fro_drewN_of ?_) | (with_reducible refine fro_below_of (by with_reducible assumption) (by (first | exact Nat.le_refl _ | omega | (simp; done) | (simp; omega))) ?_) | (with_reducible refine fro_alloc_of _ (by (first | exact Nat.le_refl _ | omega | (simp; done) | (simp; omega))) ?_) | (with_reducible refine fro_set_of _ ?_))))⟩ ?_
  rintro W1 ⟨⟨s0, s1, s2⟩, ⟨f0, f1⟩, hb0, hsz, hst0⟩
  have HB0 := Lib.hid hb0
  have HT0 := Lib.hid (show St0 W1 (W.heap.size + 1) from hst0)
  clear hb0 hst0
  go_cut [] (fun wx => ∃ pA' pc' gA' gc', (wx.cell? ⟨W.heap.size, 0, none⟩ = some (.slice pA' st.n pc') ∧ wx.cell? ⟨W.heap.size, 1, none⟩ = some (.slice gA' st.m gc') ∧ wx.cell? ⟨W.heap.size, 2, none⟩ = some (.int .i64 st.lots)) ∧
    st.n ≤ pc' ∧ st.m ≤ gc' ∧ Hid (OwnPk wx W1.heap.size pA' st.n st.P) ∧ Hid (OwnGd wx W1.heap.size gA' st.m st.G) ∧ Hid (Below W.heap.size W wx) ∧ Hid (St0 wx (W.heap.size + 1)) ∧ W1.heap.size ≤ wx.heap.size ∧ Hid (∀ b c, pA' = some ⟨b, 0, none⟩ → gA' = some ⟨c, 0, none⟩ → 0 < st.n → 0 < st.m → c ≠ b))
  case first =>
    go_region_with (first | (go_at_call 74; refine (copy_pk pA st.n pc st.P _ (((HS.out.p.below ((show Below W.heap.size W _ from HB0.out.trans ((show Below W1.heap.size W1 _ from (by repeat (first | (with_reducible exact Below.refl _ _) | (with_reducible refine Below.drew ?_) | (with_reducible refine below_drewN ?_ _) | ((with_reducible refine below_alloc ?_ ?_ _); · (first | exact Nat.le_refl _ | omega | (simp; done) | (simp; omega) | (simp at *; omega))) | ((with_reducible refine below_set ?_ ?_ _); · (first | exact Nat.le_refl _ | omega | (simp; done) | (simp; omega) | (simp at *; omega))) | ((with_reducible refine below_via (by with_reducible assumption) ?_ ?_); · (first | exact Nat.le_refl _ | omega | (simp; done) | (simp; omega) | (simp at *; omega)))))).mono (by omega))).mono hB)).mono (by (first | exact Nat.le_refl _ | omega | (simp; done) | (simp; omega))))) (by omega)).mono ?_; rintro e wp ⟨hbp, pA', pc', rfl, hop, hpc'⟩; obtain ⟨hcp, hfp⟩ := bcell hbp; have hzp := hbp.size; (try simp only [World.size_drew, World.heap_drewN, World.size_alloc] at hzp)) | (go_at_call 75; refine (copy_gd gA st.m gc st.G _ (((HS.out.g.below ((show Below W.heap.size W _ from HB0.out.trans ((show Below W1.heap.size W1 _ from (by repeat (first | (with_reducible exact Below.refl _ _) | (with_reducible refine Below.drew ?_) | (with_reducible refine below_drewN ?_ _) | ((with_reducible refine below_alloc ?_ ?_ _); · (first | exact Nat.le_refl _ | omega | (simp; done) | (simp; omega) | (simp at *; omega))) | ((with_reducible refine below_set ?_ ?_ _); · (first | exact Nat.le_refl _ | omega | (simp; done) | (simp; omega) | (simp at *; omega))) | ((with_reducible refine below_via (by with_reducible assumption) ?_ ?_); · (first | exact Nat.le_refl _ | omega | (simp; done) | (simp; omega) | (simp at *; omega)))))).mono (by omega))).mono hB)).mono (by (first | exact Nat.le_refl _ | omega | (simp; done) | (simp; omega))))) (by omega)).mono ?_; rintro e wg ⟨hbg, gA', gc', rfl, hog, hgc'⟩; obtain ⟨hcg, hfg⟩ := bcell hbg; have hzg := hbg.size; (try simp only [World.size_drew, World.heap_drewN, World.size_alloc] at hzg)))
    all_goals
      have hbx : Below W1.heap.size W1 wg := (by repeat (first | (with_reducible exact Below.refl _ _) | (with_reducible refine Below.drew ?_) | (with_reducible refine below_drewN ?_ _) | ((with_reducible refine below_alloc ?_ ?_ _); · (first | exact Nat.le_refl _ | omega | (simp; done) | (simp; omega) | (simp at *; omega))) | ((with_reducible refine below_set ?_ ?_ _); · (first | exact Nat.le_refl _ | omega | (simp; done) | (simp; omega) | (simp at *; omega))) | ((with_reducible refine below_via (by with_reducible assumption) ?_ ?_); · (first | exact Nat.le_refl _ | omega | (simp; done) | (simp; omega) | (simp at *; omega)))))
      have hop' := Lib.hid (((hop.later hbg).set (p := ⟨W.heap.size, 0, none⟩) (by show W.heap.size < W1.heap.size; omega) (.slice pA' st.n pc')).set (p := ⟨W.heap.size, 1, none⟩) (by show W.heap.size < W1.heap.size; omega) (.slice gA' st.m gc'))
      have hog' := Lib.hid (((hog.mono hzp).set (p := ⟨W.heap.size, 0, none⟩) (by show W.heap.size < W1.heap.size; omega) (.slice pA' st.n pc')).set (p := ⟨W.heap.size, 1, none⟩) (by show W.heap.size < W1.heap.size; omega) (.slice gA' st.m gc'))
      have hst' := Lib.hid (((HT0.out.same (hbx.block _ (by omega))).same (w' := wg.setCell ⟨W.heap.size, 0, none⟩ (.slice pA' st.n pc')) (set_heap _ (by simp))).same (w' := (wg.setCell ⟨W.heap.size, 0, none⟩ (.slice pA' st.n pc')).setCell ⟨W.heap.size, 1, none⟩ (.slice gA' st.m gc')) (set_heap _ (by simp)))
      have hsx : W1.heap.size ≤ wg.heap.size := hbx.size
      have r0 := cell_below_of hbx s0
      have r1 := cell_below_of hbx s1
      have r2 := cell_below_of hbx s2
      have hbb := Lib.hid (HB0.out.trans (hbx.mono (by omega)))
      have hdis : Hid (∀ b c, pA' = some ⟨b, 0, none⟩ → gA' = some ⟨c, 0, none⟩ → 0 < st.n → 0 < st.m → c ≠ b) := Lib.hid (by
        rintro b c rfl rfl hn0 hm0
        obtain ⟨b', hA, _, c0, _⟩ := hop 0 hn0
        injection hA with hA
        injection hA with hA
        subst hA
        obtain ⟨c', hA, hl, _⟩ := hog 0 hm0
        injection hA with hA
        injection hA with hA
        subst hA
        have := World.block_lt_of_cell? wp _ c0
        dsimp only at this
        omega)
      clear hbx hop hog hcp hcg hfp hfg hbp hbg s0 s1 s2 f0 f1
      go_wp2_with fail
      go_meet
      exact ⟨pA', pc', gA', gc', ⟨by simp [go_sem, r0], by simp [go_sem, r0, r1], by simp [go_sem, r0, r1, r2]⟩, hpc', hgc', hop', hog', Lib.hid ((hbb.out.setCell (by simp) _).setCell (by simp) _), hst', by simp [World.setCell]; omega, hdis⟩
  case rest =>
    clear s0 s1 s2 f0 f1
    obtain ⟨pA', pc', gA', gc', ⟨s0, s1, s2⟩, hpc', hgc', hop, hog, hbx, hst, hsx, hdis⟩ := hcut
    have o0 := hst.out.1.1
    have o1 := hst.out.1.2.1
    have o2 := hst.out.1.2.2
    have g0 := hst.out.2.1
    have g1 := hst.out.2.2.1
    have g2 := hst.out.2.2.2
    go_wp2_with fail
    have hpk := Lib.hid ((((hop.out.set (p := ⟨W.heap.size + 1, 0, none⟩) (by show W.heap.size + 1 < W1.heap.size; omega) (.slice pA' st.n pc')).set (p := ⟨W.heap.size + 1, 1, none⟩) (by show W.heap.size + 1 < W1.heap.size; omega) (.slice gA' st.m gc')).set (p := ⟨W.heap.size + 1, 2, none⟩) (by show W.heap.size + 1 < W1.heap.size; omega) (.int .i64 st.lots)).mono (show W.heap.size ≤ W1.heap.size by omega))
    have hgd := Lib.hid ((((hog.out.set (p := ⟨W.heap.size + 1, 0, none⟩) (by show W.heap.size + 1 < W1.heap.size; omega) (.slice pA' st.n pc')).set (p := ⟨W.heap.size + 1, 1, none⟩) (by show W.heap.size + 1 < W1.heap.size; omega) (.slice gA' st.m gc')).set (p := ⟨W.heap.size + 1, 2, none⟩) (by show W.heap.size + 1 < W1.heap.size; omega) (.int .i64 st.lots)).mono (show W.heap.size ≤ W1.heap.size by omega))
    refine bodyPost_ret (v := stV pA' st.n pc' gA' st.m gc' st.lots) ?_ rfl ⟨?_, pA', pc', gA', gc', rfl, hpk.out, hgd.out, hpc', hgc', hdis.out⟩
    · exact (by simp (maxDischargeDepth := 9) [results, Try.results18, go_sem, o0, o1, o2, stV])
    · exact ((hbx.out.setCell (by simp) _).setCell (by simp) _).setCell (by simp) _

set_option maxRecDepth 100000 in
set_option maxHeartbeats 400000 in
theorem long_any (pA gA : Option Addr) (n pc m gc : Nat) (l : Int) (W : World) :
    Calls Try.prog 16 #[stV pA n pc gA m gc l] W fun e W' => e = .returned (.bool (decide (6 < n) || decide (6 < m))) ∧ Below W.heap.size W W' := by
  by_cases h1 : 6 < n
  · have h1' : (6 : Int) < (n : Int) := by omega
    have hd : Hid ((decide (6 < n) || decide (6 < m)) = true) := Lib.hid (by simp [h1])
    clear h1
    go_enter Try.func16, Try.ntmps16
    go_wp2_with fail
    go_ret
    exact ⟨by rw [hd.out]; rfl, (by repeat (first | (with_reducible exact Below.refl _ _) | (with_reducible refine Below.drew ?_) | (with_reducible refine below_drewN ?_ _) | ((with_reducible refine below_alloc ?_ ?_ _); · (first | exact Nat.le_refl _ | omega | (simp; done) | (simp; omega) | (simp at *; omega))) | ((with_reducible refine below_set ?_ ?_ _); · (first | exact Nat.le_refl _ | omega | (simp; done) | (simp; omega) | (simp at *; omega))) | ((with_reducible refine below_via (by with_reducible assumption) ?_ ?_); · (first | exact Nat.le_refl _ | omega | (simp; done) | (simp; omega) | (simp at *; omega)))))⟩
  · have h1' : ¬ (6 : Int) < (n : Int) := by omega
    by_cases h2 : 6 < m
    · have h2' : (6 : Int) < (m : Int) := by omega
      have hd : Hid ((decide (6 < n) || decide (6 < m)) = true) := Lib.hid (by simp [h2])
      clear h1 h2
      go_enter Try.func16, Try.ntmps16
      go_wp2_with fail
      go_ret
      exact ⟨by rw [hd.out]; rfl, (by repeat (first | (with_reducible exact Below.refl _ _) | (with_reducible refine Below.drew ?_) | (with_reducible refine below_drewN ?_ _) | ((with_reducible refine below_alloc ?_ ?_ _); · (first | exact Nat.le_refl _ | omega | (simp; done) | (simp; omega) | (simp at *; omega))) | ((with_reducible refine below_set ?_ ?_ _); · (first | exact Nat.le_refl _ | omega | (simp; done) | (simp; omega) | (simp at *; omega))) | ((with_reducible refine below_via (by with_reducible assumption) ?_ ?_); · (first | exact Nat.le_refl _ | omega | (simp; done) | (simp; omega) | (simp at *; omega)))))⟩
    · have h2' : ¬ (6 : Int) < (m : Int) := by omega
      have hd : Hid ((decide (6 < n) || decide (6 < m)) = false) := Lib.hid (by simp; omega)
      clear h1 h2
      go_enter Try.func16, Try.ntmps16
      go_wp2_with fail
      go_ret
      exact ⟨by rw [hd.out]; rfl, (by repeat (first | (with_reducible exact Below.refl _ _) | (with_reducible refine Below.drew ?_) | (with_reducible refine below_drewN ?_ _) | ((with_reducible refine below_alloc ?_ ?_ _); · (first | exact Nat.le_refl _ | omega | (simp; done) | (simp; omega) | (simp at *; omega))) | ((with_reducible refine below_set ?_ ?_ _); · (first | exact Nat.le_refl _ | omega | (simp; done) | (simp; omega) | (simp at *; omega))) | ((with_reducible refine below_via (by with_reducible assumption) ?_ ?_); · (first | exact Nat.le_refl _ | omega | (simp; done) | (simp; omega) | (simp at *; omega)))))⟩

theorem PkRow.later' {w w' : World} {A : Option Addr} {n : Nat} {P : Nat → Pk} (h : PkRow w w.heap.size A n P) (hb : Below w.heap.size w w') : PkRow w' w'.heap.size A n P := (h.below hb).mono hb.size
theorem GdRow.later' {w w' : World} {A : Option Addr} {n : Nat} {P : Nat → Gd} (h : GdRow w w.heap.size A n P) (hb : Below w.heap.size w w') : GdRow w' w'.heap.size A n P := (h.below hb).mono hb.size
theorem alln_pk (P : Nat → Pk) (n : Nat) : allN (fun k => pkEq (P k) (P k)) n = true := allN_iff.2 (fun k _ => by simp [pkEq])
theorem alln_gd (P : Nat → Gd) (n : Nat) : allN (fun k => gdEq (P k) (P k)) n = true := allN_iff.2 (fun k _ => by simp [gdEq])

set_option maxRecDepth 100000 in
set_option maxHeartbeats 1000000 in
/-- same of one store in two places -/
theorem same_any (st : St) (B B2 : Nat) (pA gA pA2 gA2 : Option Addr) (pc gc pc2 gc2 : Nat) (W : World) (hs : StRow W B st pA pc gA gc) (hs2 : StRow W B2 st pA2 pc2 gA2 gc2) :
    Calls Try.prog 26 #[stV pA st.n pc gA st.m gc st.lots, stV pA2 st.n pc2 gA2 st.m gc2 st.lots] W fun e W' => e = .returned (.bool true) ∧ Below W.heap.size W W' := by
  have HS := Lib.hid hs
  have HS2 := Lib.hid hs2
  have hB := hs.lt
  have hB2 := hs2.lt
  have hn := hs.n
  have hm := hs.m
  clear hs hs2
  go_enter Try.func26, Try.ntmps26
  go_wp2_with fail
  refine (alike_pk pA pA2 st.n st.n pc pc2 st.P st.P _ ((HS.out.p.mono hB).later' (by repeat (first | (with_reducible exact Below.refl _ _) | (with_reducible refine Below.drew ?_) | (with_reducible refine below_drewN ?_ _) | ((with_reducible refine below_alloc ?_ ?_ _); · (first | exact Nat.le_refl _ | omega | (simp; done) | (simp; omega) | (simp at *; omega))) | ((with_reducible refine below_set ?_ ?_ _); · (first | exact Nat.le_refl _ | omega | (simp; done) | (simp; omega) | (simp at *; omega))) | ((with_reducible refine below_via (by with_reducible assumption) ?_ ?_); · (first | exact Nat.le_refl _ | omega | (simp; done) | (simp; omega) | (simp at *; omega)))))) ((HS2.out.p.mono hB2).later' (by repeat (first | (with_reducible exact Below.refl _ _) | (with_reducible refine Below.drew ?_) | (with_reducible refine below_drewN ?_ _) | ((with_reducible refine below_alloc ?_ ?_ _); · (first | exact Nat.le_refl _ | omega | (simp; done) | (simp; omega) | (simp at *; omega))) | ((with_reducible refine below_set ?_ ?_ _); · (first | exact Nat.le_refl _ | omega | (simp; done) | (simp; omega) | (simp at *; omega))) | ((with_reducible refine below_via (by with_reducible assumption) ?_ ?_); · (first | exact Nat.le_refl _ | omega | (simp; done) | (simp; omega) | (simp at *; omega)))))) (by omega)).mono ?_
  rintro e w1 ⟨rfl, hb1⟩
  rw [alln_pk, decide_eq_true rfl]
  have HB1 := Lib.hid (show Below W.heap.size W w1 from (by repeat (first | (with_reducible exact Below.refl _ _) | (with_reducible refine Below.drew ?_) | (with_reducible refine below_drewN ?_ _) | ((with_reducible refine below_alloc ?_ ?_ _); · (first | exact Nat.le_refl _ | omega | (simp; done) | (simp; omega) | (simp at *; omega))) | ((with_reducible refine below_set ?_ ?_ _); · (first | exact Nat.le_refl _ | omega | (simp; done) | (simp; omega) | (simp at *; omega))) | ((with_reducible refine below_via (by with_reducible assumption) ?_ ?_); · (first | exact Nat.le_refl _ | omega | (simp; done) | (simp; omega) | (simp at *; omega))))))
  have hs1 := hb1.size
  simp only [World.size_alloc] at hs1
  have a1 : w1.cell? ⟨W.heap.size, 1, none⟩ = some (.slice gA st.m gc) := cell_below_of hb1 (by (repeat' refine And.intro ?_ ?_) <;> (repeat (first | (with_reducible assumption) | (simp; done) | (with_reducible refine cell_drew_of ?_) | (with_reducible refine cell_drewN_of ?_) | (with_reducible refine cell_below_of (by with_reducible assumption) ?_) | ((with_reducible refine cell_new_of ?_ ?_) <;> (first | (with_reducible rfl) | (simp; done))) | ((with_reducible refine fro_new_of ?_) <;> (first | (with_reducible rfl) | (simp; done))) | (with_reducible refine cell_alloc_of _ ?_) | (with_reducible refine cell_set_of _ (by (first | exact Nat.le_refl _ | omega | (simp; done) | (simp; omega))) ?_) | (with_reducible refine fro_drew_of ?_) | (with_reducible refine fro_drewN_of ?_) | (with_reducible refine fro_below_of (by with_reducible assumption) (by (first | exact Nat.le_refl _ | omega | (simp; done) | (simp; omega))) ?_) | (with_reducible refine fro_alloc_of _ (by (first | exact Nat.le_refl _ | omega | (simp; done) | (simp; omega))) ?_) | (with_reducible refine fro_set_of _ ?_))))
  have b1 : w1.cell? ⟨W.heap.size + 1, 1, none⟩ = some (.slice gA2 st.m gc2) := cell_below_of hb1 (by (repeat' refine And.intro ?_ ?_) <;> (repeat (first | (with_reducible assumption) | (simp; done) | (with_reducible refine cell_drew_of ?_) | (with_reducible refine cell_drewN_of ?_) | (with_reducible refine cell_below_of (by with_reducible assumption) ?_) | ((with_reducible refine cell_new_of ?_ ?_) <;> (first | (with_reducible rfl) | (simp; done))) | ((with_reducible refine fro_new_of ?_) <;> (first | (with_reducible rfl) | (simp; done))) | (with_reducible refine cell_alloc_of _ ?_) | (with_reducible refine cell_set_of _ (by (first | exact Nat.le_refl _ | omega | (simp; done) | (simp; omega))) ?_) | (with_reducible refine fro_drew_of ?_) | (with_reducible refine fro_drewN_of ?_) | (with_reducible refine fro_below_of (by with_reducible assumption) (by (first | exact Nat.le_refl _ | omega | (simp; done) | (simp; omega))) ?_) | (with_reducible refine fro_alloc_of _ (by (first | exact Nat.le_refl _ | omega | (simp; done) | (simp; omega))) ?_) | (with_reducible refine fro_set_of _ ?_))))
  have a2 : w1.cell? ⟨W.heap.size, 2, none⟩ = some (.int .i64 st.lots) := cell_below_of hb1 (by (repeat' refine And.intro ?_ ?_) <;> (repeat (first | (with_reducible assumption) | (simp; done) | (with_reducible refine cell_drew_of ?_) | (with_reducible refine cell_drewN_of ?_) | (with_reducible refine cell_below_of (by with_reducible assumption) ?_) | ((with_reducible refine cell_new_of ?_ ?_) <;> (first | (with_reducible rfl) | (simp; done))) | ((with_reducible refine fro_new_of ?_) <;> (first | (with_reducible rfl) | (simp; done))) | (with_reducible refine cell_alloc_of _ ?_) | (with_reducible refine cell_set_of _ (by (first | exact Nat.le_refl _ | omega | (simp; done) | (simp; omega))) ?_) | (with_reducible refine fro_drew_of ?_) | (with_reducible refine fro_drewN_of ?_) | (with_reducible refine fro_below_of (by with_reducible assumption) (by (first | exact Nat.le_refl _ | omega | (simp; done) | (simp; omega))) ?_) | (with_reducible refine fro_alloc_of _ (by (first | exact Nat.le_refl _ | omega | (simp; done) | (simp; omega))) ?_) | (with_reducible refine fro_set_of _ ?_))))
  have b2 : w1.cell? ⟨W.heap.size + 1, 2, none⟩ = some (.int .i64 st.lots) := cell_below_of hb1 (by (repeat' refine And.intro ?_ ?_) <;> (repeat (first | (with_reducible assumption) | (simp; done) | (with_reducible refine cell_drew_of ?_) | (with_reducible refine cell_drewN_of ?_) | (with_reducible refine cell_below_of (by with_reducible assumption) ?_) | ((with_reducible refine cell_new_of ?_ ?_) <;> (first | (with_reducible rfl) | (simp; done))) | ((with_reducible refine fro_new_of ?_) <;> (first | (with_reducible rfl) | (simp; done))) | (with_reducible refine cell_alloc_of _ ?_) | (with_reducible refine cell_set_of _ (by (first | exact Nat.le_refl _ | omega | (simp; done) | (simp; omega))) ?_) | (with_reducible refine fro_drew_of ?_) | (with_reducible refine fro_drewN_of ?_) | (with_reducible refine fro_below_of (by with_reducible assumption) (by (first | exact Nat.le_refl _ | omega | (simp; done) | (simp; omega))) ?_) | (with_reducible refine fro_alloc_of _ (by (first | exact Nat.le_refl _ | omega | (simp; done) | (simp; omega))) ?_) | (with_reducible refine fro_set_of _ ?_))))
  clear hb1
  go_wp2_with fail
  refine (alike_gd gA gA2 st.m st.m gc gc2 st.G st.G _ ((HS.out.g.mono hB).later' HB1.out) ((HS2.out.g.mono hB2).later' HB1.out) (by omega)).mono ?_
  rintro e w2 ⟨rfl, hb2⟩
  rw [alln_gd, decide_eq_true rfl]
  have HB2 := Lib.hid (HB1.out.trans (hb2.mono (by omega)))
  have a2' := cell_below_of hb2 a2
  have b2' := cell_below_of hb2 b2
  clear hb2 a1 b1 a2 b2
  go_wp2_with fail
  go_ret
  exact ⟨rfl, HB2.out⟩
end Go.Proofs.Ytegmomappbehcaa
