/- Best of package lot. -/
import Derived.Test.YtmbkngfcbgbeiaaGreatWr
set_option linter.unusedSimpArgs false
set_option linter.unusedVariables false
namespace Go.Proofs.YtmbkngfcbgbeiaaGreat
open Go.RowKit Go.Shelf

def St.bestErr (st : St) : Int := st.check
/-- rows of numbers, one for each bag -/
def RowsOf (w : World) (B : Nat) (A : Option Addr) (n : Nat) (L : List Bag) : Prop :=
  ∀ k x, L[k]? = some x → ∃ b o rb, A = some ⟨b, o, none⟩ ∧ b < B ∧ w.cell? ⟨b, o + k, none⟩ = some (.slice (some ⟨rb, 0, none⟩) n n) ∧ rb < B ∧ ∀ j, j < n → w.cell? ⟨rb, j, none⟩ = some (.int .i64 (x.at j))
/-- what Best gives -/
def BestRPost (st : St) (W : World) (e : Ending) (W' : World) : Prop :=
  Below W.heap.size W W' ∧ ((st.check = 0 ∧ ∃ A c, e = .returned (.tuple #[.slice A (st.planN st.lots.toNat st.all).length c, .int .i64 (st.choose st.lots.toNat st.all).2, .int .i64 0]) ∧ RowsOf W' W'.heap.size A st.n (st.planN st.lots.toNat st.all) ∧ (st.planN st.lots.toNat st.all).length ≤ c) ∨
    (st.check ≠ 0 ∧ e = .returned (.tuple #[.slice none 0 0, .int .i64 0, .int .i64 st.check])))

theorem infoRow : (Tryz.prog.info? 38).map (fun i => (i.zero, i.size, i.bytes)) = some (some (.slice none 0 0), 1, 24) := by kernel_rfl
theorem rows_under : Tryz.prog.underlying 43 = some (.slice 38) := by kernel_rfl

set_option maxRecDepth 100000 in
set_option maxHeartbeats 4000000 in
/-- lot.Best -/
theorem Best_any (st : St) (B : Nat) (pA gA : Option Addr) (pc gc : Nat) (W : World) (hs : StRow W B st pA pc gA gc) :
    Calls Tryz.prog 11 #[stV pA st.n pc gA st.m gc st.lots] W (BestRPost st W) := by
  have HS := Lib.hid hs
  have hB := hs.lt
  clear hs
  by_cases h0 : st.check = 0
  · have hnb : (st.check != 0) = false := by simpa using h0
    have HO := Lib.hid (St.check_ok.1 h0)
    have H0 := Lib.hid h0
    clear h0
    go_enter Tryz.func11, Tryz.ntmps11
    go_wp2_with fail
    refine (opened_st st B pA gA pc gc _ (HS.out.later (by repeat (first | (with_reducible exact Below.refl _ _) | (with_reducible refine Below.drew ?_) | (with_reducible refine below_drewN ?_ _) | ((with_reducible refine below_alloc ?_ ?_ _); · (first | exact Nat.le_refl _ | omega | (simp; done) | (simp; omega) | (simp at *; omega))) | ((with_reducible refine below_set ?_ ?_ _); · (first | exact Nat.le_refl _ | omega | (simp; done) | (simp; omega) | (simp at *; omega))) | ((with_reducible refine below_via (by with_reducible assumption) ?_ ?_); · (first | exact Nat.le_refl _ | omega | (simp; done) | (simp; omega) | (simp at *; omega))))))).mono ?_
    rintro e w1 ⟨hb1, ⟨_, db, rfl, hD, hdb⟩ | ⟨hne, rfl⟩⟩
    · have HD := Lib.hid hD
      simp only [World.size_alloc] at hdb
      have hs1 := hb1.size
      simp only [World.size_alloc] at hs1
      have hy := Lib.hid (show Below W.heap.size W w1 from (by repeat (first | (with_reducible exact Below.refl _ _) | (with_reducible refine Below.drew ?_) | (with_reducible refine below_drewN ?_ _) | ((with_reducible refine below_alloc ?_ ?_ _); · (first | exact Nat.le_refl _ | omega | (simp; done) | (simp; omega) | (simp at *; omega))) | ((with_reducible refine below_set ?_ ?_ _); · (first | exact Nat.le_refl _ | omega | (simp; done) | (simp; omega) | (simp at *; omega))) | ((with_reducible refine below_via (by with_reducible assumption) ?_ ?_); · (first | exact Nat.le_refl _ | omega | (simp; done) | (simp; omega) | (simp at *; omega))))))
      clear hD hb1
      go_wp2_with fail
      refine (best_any st HO.out db _ (HD.out.at (by omega))).mono ?_
      rintro e w2 ⟨hb2, A, cc, rfl, hbr, hcl⟩
      have hlen := St.planN_len st st.lots.toNat st.all
      have hl3 := HO.out.l3
      have hl0 := HO.out.l0
      generalize hpl : st.planN st.lots.toNat st.all = L at hbr hcl hlen ⊢
      have HPL := Lib.hid hpl
      have HBR := Lib.hid hbr
      have HD2 := Lib.hid (HD.out.later (by omega) hb2)
      have hy2 := Lib.hid (hy.out.trans (hb2.mono (by omega)))
      have hs2 := hb2.size
      have hL : L.length ≤ 3 := by omega
      have n1 := HO.out.n1
      have n4 := HO.out.n4
      obtain ⟨pA', pc', gA', gc', _, _, q0, _, _, _⟩ := HD2.out.rows
      obtain ⟨i0, hi, hz0, hz1, hz2⟩ := info_parts infoRow
      clear hbr hpl hb2
      go_wp2_with fail
      go_loopw [9, 27] (fun v i wr => ∃ (k : Nat) (vs : List Value), k ≤ L.length ∧ i = .int .i64 k ∧ vs.length = k ∧ Hid (wr.ownsRow w2.heap.size 38 1 v k vs) ∧ Hid (Below w2.heap.size w2 wr) ∧
        Hid (∀ j x, j < k → L[j]? = some x → ∃ rb, vs[j]? = some (.slice (some ⟨rb, 0, none⟩) st.n st.n) ∧ rb < wr.heap.size ∧ v.ownBlock ≠ some rb ∧ ∀ i, i < st.n → wr.cell? ⟨rb, i, none⟩ = some (.int .i64 (x.at i)))) (fun _ i _ => L.length - (intOf i).toNat)
      case atStart => exact ⟨0, [], Nat.zero_le _, rfl, rfl, Lib.hid (World.ownsRow_nil _ _ _ _), Lib.hid (Below.refl _ _), Lib.hid (fun j x hj => absurd hj (by omega))⟩
      case round =>
        obtain ⟨k, vs, hk, rfl, hvl, hown, hbw, hrs⟩ := hrel
        by_cases hlt : k < L.length
        · obtain ⟨x, hx⟩ : ∃ x, L[k]? = some x := ⟨L[k], List.getElem?_eq_getElem hlt⟩
          obtain ⟨b, o, rfl, hbl, hcs⟩ := HBR.out k x hx
          have HX := Lib.hid hx
          have hkl : (k : Int) < (L.length : Int) := by omega
          have hk0 : (0 : Int) ≤ (k : Int) := by omega
          have c0 := cell_same (hbw.out.block b hbl) (hcs 0 (by omega))
          have c1 := cell_same (hbw.out.block b hbl) (hcs 1 (by omega))
          have c2 := cell_same (hbw.out.block b hbl) (hcs 2 (by omega))
          have c3 := cell_same (hbw.out.block b hbl) (hcs 3 (by omega))
          simp only [Bag.at, Nat.add_zero] at c0 c1 c2 c3
          have q1 := cell_same (hbw.out.block db HD2.out.lt) q0
          have hvs := Lib.hid hvl
          have hsb := hbw.out.size
          clear hx hcs hvl
          go_wp2_with fail
          refine (list_n st.n n1 n4 x db pA' pc' _ (by (repeat' refine And.intro ?_ ?_) <;> (repeat (first | (with_reducible assumption) | (simp; done) | (with_reducible refine cell_drew_of ?_) | (with_reducible refine cell_drewN_of ?_) | (with_reducible refine cell_below_of (by with_reducible assumption) ?_) | ((with_reducible refine cell_new_of ?_ ?_) <;> (first | (with_reducible rfl) | (simp; done))) | ((with_reducible refine fro_new_of ?_) <;> (first | (with_reducible rfl) | (simp; done))) | (with_reducible refine cell_alloc_of _ ?_) | (with_reducible refine cell_set_of _ (by (first | exact Nat.le_refl _ | omega | (simp; done) | (simp; omega))) ?_) | (with_reducible refine fro_drew_of ?_) | (with_reducible refine fro_drewN_of ?_) | (with_reducible refine fro_below_of (by with_reducible assumption) (by (first | exact Nat.le_refl _ | omega | (simp; done) | (simp; omega))) ?_) | (with_reducible refine fro_alloc_of _ (by (first | exact Nat.le_refl _ | omega | (simp; done) | (simp; omega))) ?_) | (with_reducible refine fro_set_of _ ?_))))).mono ?_
          rintro e w5 ⟨rb, rfl, hrb, hrow, hbb⟩
          have hb5 := Lib.hid (show Below wr.heap.size wr w5 from (by repeat (first | (with_reducible exact Below.refl _ _) | (with_reducible refine Below.drew ?_) | (with_reducible refine below_drewN ?_ _) | ((with_reducible refine below_alloc ?_ ?_ _); · (first | exact Nat.le_refl _ | omega | (simp; done) | (simp; omega) | (simp at *; omega))) | ((with_reducible refine below_set ?_ ?_ _); · (first | exact Nat.le_refl _ | omega | (simp; done) | (simp; omega) | (simp at *; omega))) | ((with_reducible refine below_via (by with_reducible assumption) ?_ ?_); · (first | exact Nat.le_refl _ | omega | (simp; done) | (simp; omega) | (simp at *; omega))))))
          have hs5 := hb5.out.size
          have hown5 := hown.out.kept (grown_of_below w5.heap.size hb5.out) (by
            cases hv : u9.ownBlock with
            | none => exact .inl rfl
            | some i => exact .inr (by have := (hown.out.lt i hv).2; intro e; injection e with e; omega))
          have HOWN5 := Lib.hid hown5
          have HROW := Lib.hid hrow
          simp only [World.size_alloc] at hrb
          have hv1 := hown.out.lt
          clear c0 c1 c2 c3 q1 hbb hrow hown5
          go_wp2_with (at_builtin; refine wpList_append_own _ rfl (.tmp 31) (.tmp 35) 43 rfl w2.heap.size 38 i0 (.slice none 0 0) 1 24 rows_under hi hz0 hz1 hz2 rfl (by decide) u9 k vs rfl (HOWN5.out.alloc _) ⟨w5.heap.size, 0, none⟩ 1 1 [.slice (some ⟨rb, 0, none⟩) st.n st.n] rfl rfl ?c1 ?c2 ?c3 ?c4 ?c5 ?_)
          case c1 => exact new_cells (cs := [.slice (some ⟨rb, 0, none⟩) st.n st.n])
          case c2 => intro u hu; simp only [List.mem_cons, List.not_mem_nil, or_false] at hu; rcases hu with rfl; rfl
          case c3 => unfold maxLen; omega
          case c4 => omega
          case c5 => simp; omega
          intro v' w6 hown' hgr _
          have hs6 := hgr.size
          simp only [World.size_alloc] at hs6
          have hkw : ∀ i, i < w5.heap.size → u9.ownBlock ≠ some i → w6.heap[i]? = w5.heap[i]? := fun i hi hn => (hgr.block i (by simp; omega) (fun e => hn e.symm)).trans (Below.heap_alloc _ _ _ hi)
          have hbl6 : Below w2.heap.size w2 w6 := (hbw.out.trans (hb5.out.mono hsb)).trans ⟨hgr.os, hgr.tape, hgr.output, by omega, fun i hi => hkw i (by omega) (fun e => by have := (hv1 i e).1; omega)⟩
          have HBL6 := Lib.hid hbl6
          have hrow0 : ∀ i, i < st.n → w6.cell? ⟨rb, i, none⟩ = some (.int .i64 (x.at i)) := fun i hi => by
            obtain ⟨b', o', hA, hlt', hc⟩ := HROW.out i hi
            injection hA with hA
            injection hA with e1 e2
            subst e1 e2
            rw [Nat.zero_add] at hc
            exact cell_same (hkw rb (World.block_lt_of_cell? w5 _ hc) (fun e => by have := (hv1 rb e).2; omega)) hc
          have hold : ∀ j y, j < k → L[j]? = some y → ∃ r', vs[j]? = some (.slice (some ⟨r', 0, none⟩) st.n st.n) ∧ r' < w6.heap.size ∧ ∀ i, i < st.n → w6.cell? ⟨r', i, none⟩ = some (.int .i64 (y.at i)) := fun j y hj hy => by
            obtain ⟨r', e1, e2, e3, e4⟩ := hrs.out j y hj hy
            exact ⟨r', e1, by omega, fun i hi => cell_same ((hkw r' (by omega) e3).trans (hb5.out.block r' e2)) (e4 i hi)⟩
          have hnown : ∀ r' (y : Bag), (∀ i, i < st.n → w6.cell? ⟨r', i, none⟩ = some (.int .i64 (y.at i))) → v'.ownBlock ≠ some r' := fun r' y h e => by
            have h1 := h 0 (by omega)
            obtain ⟨u, hu⟩ : ∃ u, (vs ++ [.slice (some ⟨rb, 0, none⟩) st.n st.n])[0]? = some u := ⟨_, List.getElem?_eq_getElem (by simp)⟩
            have h2 := hown'.cells e 0 u hu
            simp only [Addr.add] at h2
            have h3 : u = .int .i64 (y.at 0) := by
              have : w6.cell? ⟨r', 0, none⟩ = some u := by simpa using h2
              rw [h1] at this
              injection this with this
              exact this.symm
            subst h3
            cases k with
            | zero =>
              have hv0 : vs = [] := List.eq_nil_of_length_eq_zero hvs.out
              rw [hv0] at hu
              simp at hu
            | succ k =>
              have hx0 : ∃ y0, L[0]? = some y0 := ⟨L[0], List.getElem?_eq_getElem (by omega)⟩
              obtain ⟨y0, hy0⟩ := hx0
              obtain ⟨r0, e1, _⟩ := hold 0 y0 (by omega) hy0
              rw [List.getElem?_append_left (by have := hvs.out; omega), e1] at hu
              injection hu with hu
              cases hu
          have hnew : Hid (∀ j y, j < k + 1 → L[j]? = some y → ∃ r', (vs ++ [.slice (some ⟨rb, 0, none⟩) st.n st.n])[j]? = some (.slice (some ⟨r', 0, none⟩) st.n st.n) ∧ r' < w6.heap.size ∧ v'.ownBlock ≠ some r' ∧ ∀ i, i < st.n → w6.cell? ⟨r', i, none⟩ = some (.int .i64 (y.at i))) := Lib.hid (fun j y hj hy => by
            rcases Nat.lt_or_ge j k with h | h
            · obtain ⟨r', e1, e2, e3⟩ := hold j y h hy
              exact ⟨r', by rw [List.getElem?_append_left (by have := hvs.out; omega)]; exact e1, e2, hnown r' y e3, e3⟩
            · obtain rfl : j = k := by omega
              have hyx : y = x := by have := HX.out; rw [hy] at this; injection this
              subst hyx
              exact ⟨rb, by rw [List.getElem?_append_right (by have := hvs.out; omega), hvs.out]; simp, by have := World.block_lt_of_cell? w6 _ (hrow0 0 (by omega)); exact this, hnown rb y hrow0, hrow0⟩)
          have HOWN' := Lib.hid hown'
          clear hown' hgr hkw hrow0 hold hnown hbl6
          go_wp2_with fail
          go_roundw
          case rel => exact ⟨k + 1, _, by omega, by go_num, by rw [List.length_append, hvs.out]; rfl, HOWN', HBL6, hnew⟩
          case measure => simp [intOf]; omega
        · have hk' : k = L.length := by omega
          have hyw := Lib.hid (hy2.out.trans (hbw.out.mono (by omega)))
          have hres : Hid (∃ A c, u9 = .slice A L.length c ∧ RowsOf wr wr.heap.size A st.n L ∧ L.length ≤ c) := Lib.hid (by
            have hown := hown.out
            rw [hk'] at hown
            rcases hown.2 with ⟨h1, h2⟩ | ⟨g, cap, cur, h1, hb, hg, hc, _⟩
            · refine ⟨none, 0, by rw [h1, h2], fun j x hj => ?_, by omega⟩
              have : j < L.length := (List.getElem?_eq_some_iff.1 hj).1
              omega
            · refine ⟨some ⟨g, 0, none⟩, cap, h1, fun j x hj => ?_, hc⟩
              have hjl : j < L.length := (List.getElem?_eq_some_iff.1 hj).1
              obtain ⟨rb, e1, e2, e3, e4⟩ := hrs.out j x (by omega) hj
              refine ⟨g, 0, rb, rfl, (Array.getElem?_eq_some_iff.1 hg).1, ?_, e2, e4⟩
              rw [show (⟨g, 0 + j, none⟩ : Addr) = (⟨g, 0, none⟩ : Addr).add j by by_cases hj : j = 0 <;> simp [Addr.add, hj]]
              exact hown.cells (g := g) (by rw [h1]; rfl) j _ e1)
          obtain ⟨A', c', hu, hro, hlc⟩ := hres.out
          have HRO := Lib.hid hro
          subst hu
          clear hk' hro
          go_wp2_with fail
          go_ret3
          exact ⟨hyw.out, .inl ⟨H0.out, A', c', by rw [HPL.out]; rfl, by rw [HPL.out]; exact HRO.out, by rw [HPL.out]; exact hlc⟩⟩
    · exact absurd H0.out hne
  · have hnb : (st.check != 0) = true := by simpa using h0
    have H0 := Lib.hid h0
    clear h0
    go_enter Tryz.func11, Tryz.ntmps11
    go_wp2_with fail
    refine (opened_st st B pA gA pc gc _ (HS.out.later (by repeat (first | (with_reducible exact Below.refl _ _) | (with_reducible refine Below.drew ?_) | (with_reducible refine below_drewN ?_ _) | ((with_reducible refine below_alloc ?_ ?_ _); · (first | exact Nat.le_refl _ | omega | (simp; done) | (simp; omega) | (simp at *; omega))) | ((with_reducible refine below_set ?_ ?_ _); · (first | exact Nat.le_refl _ | omega | (simp; done) | (simp; omega) | (simp at *; omega))) | ((with_reducible refine below_via (by with_reducible assumption) ?_ ?_); · (first | exact Nat.le_refl _ | omega | (simp; done) | (simp; omega) | (simp at *; omega))))))).mono ?_
    rintro e w1 ⟨hb1, ⟨hok, db, rfl, hD, hdb⟩ | ⟨hne, rfl⟩⟩
    · exact absurd (St.check_ok.2 hok) H0.out
    · clear hne
      go_wp2_with fail
      go_ret3
      exact ⟨(by repeat (first | (with_reducible exact Below.refl _ _) | (with_reducible refine Below.drew ?_) | (with_reducible refine below_drewN ?_ _) | ((with_reducible refine below_alloc ?_ ?_ _); · (first | exact Nat.le_refl _ | omega | (simp; done) | (simp; omega) | (simp at *; omega))) | ((with_reducible refine below_set ?_ ?_ _); · (first | exact Nat.le_refl _ | omega | (simp; done) | (simp; omega) | (simp at *; omega))) | ((with_reducible refine below_via (by with_reducible assumption) ?_ ?_); · (first | exact Nat.le_refl _ | omega | (simp; done) | (simp; omega) | (simp at *; omega))))), .inr ⟨H0.out, rfl⟩⟩
end Go.Proofs.YtmbkngfcbgbeiaaGreat
