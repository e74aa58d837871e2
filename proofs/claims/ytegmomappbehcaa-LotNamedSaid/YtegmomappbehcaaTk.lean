/- The reference: Most. -/
import Derived.Test.YtegmomappbehcaaTj
import Derived.Test.YtegmomappbehcaaWo
set_option linter.unusedSimpArgs false
set_option linter.unusedVariables false
namespace Go.Proofs.Ytegmomappbehcaa
open Go.RowKit Go.Shelf

theorem IntRow.congr {w : World} {B n : Nat} {A : Option Addr} {X Y : Nat → Int} (h : IntRow w B A n X) (e : ∀ k, k < n → X k = Y k) : IntRow w B A n Y := fun k hk => by
  obtain ⟨b, o, h1, h2, h3⟩ := h k hk
  exact ⟨b, o, h1, h2, by rw [← e k hk]; exact h3⟩
theorem all_at_lt {st : St} (h4 : st.n ≤ 4) {k : Nat} (hk : k < st.n) : st.all.at k = (st.P k).s := by rw [st.all_at k (by omega), if_pos hk]
theorem pre_st {st : St} (h4 : st.n ≤ 4) : pre st.all st.n = bagsOf st.all := pre_n h4 (fun k h1 h2 => by rw [st.all_at k h2, if_neg (by omega)])
theorem bagOf_at_in {st : St} (h4 : st.n ≤ 4) {x : Bag} (h : x.in_ st.all) : bagOf x.at st.n = x := by
  refine Bag.ext_at (fun k hk => ?_)
  have h1 := Bag.in_at h k
  rw [st.all_at k hk] at h1
  have h2 : (bagOf x.at st.n).at k = if k < st.n then x.at k else 0 := by
    match k, hk with
    | 0, _ => rfl
    | 1, _ => rfl
    | 2, _ => rfl
    | 3, _ => rfl
  rw [h2]
  split
  · rfl
  · rename_i h3
    rw [if_neg h3] at h1
    omega
/-- what the reference's Most gives -/
def RMostPost (st : St) (grade : Int) (W : World) (e : Ending) (W' : World) : Prop :=
  Below W.heap.size W W' ∧ ((st.mostErr grade = 0 ∧ ∃ A c, e = .returned (.tuple #[.slice A st.n c, .int .i64 0]) ∧ IntRow W' W'.heap.size A st.n (st.most (st.G grade.toNat)).at) ∨
    (st.mostErr grade ≠ 0 ∧ e = .returned (.tuple #[.slice none 0 0, .int .i64 (st.mostErr grade)])))

theorem St.has_pos {st : St} {x : Bag} {g : Gd} (h : st.has x g = true) : 0 < x.size := by
  unfold St.has at h
  simp at h
  exact h.1

set_option maxRecDepth 100000 in
set_option maxHeartbeats 4000000 in
theorem rMost_any (st : St) (B : Nat) (pA gA : Option Addr) (pc gc : Nat) (grade : Int) (W : World) (hs : StRow W B st pA pc gA gc) :
    Calls Try.prog 22 #[stV pA st.n pc gA st.m gc st.lots, .int .i64 grade] W (RMostPost st grade W) := by
  have HS := Lib.hid hs
  have hB := hs.lt
  have hm := hs.m
  clear hs
  go_enter Try.func22, Try.ntmps22
  go_wp2_with fail
  refine (rcheck_any st B pA gA pc gc _ (HS.out.later (by repeat (first | (with_reducible exact Below.refl _ _) | (with_reducible refine Below.drew ?_) | (with_reducible refine below_drewN ?_ _) | ((with_reducible refine below_alloc ?_ ?_ _); · (first | exact Nat.le_refl _ | omega | (simp; done) | (simp; omega) | (simp at *; omega))) | ((with_reducible refine below_set ?_ ?_ _); · (first | exact Nat.le_refl _ | omega | (simp; done) | (simp; omega) | (simp at *; omega))) | ((with_reducible refine below_via (by with_reducible assumption) ?_ ?_); · (first | exact Nat.le_refl _ | omega | (simp; done) | (simp; omega) | (simp at *; omega))))))).mono ?_
  rintro e w1 ⟨rfl, hb1⟩
  have HB1 := Lib.hid (show Below W.heap.size W w1 from (by repeat (first | (with_reducible exact Below.refl _ _) | (with_reducible refine Below.drew ?_) | (with_reducible refine below_drewN ?_ _) | ((with_reducible refine below_alloc ?_ ?_ _); · (first | exact Nat.le_refl _ | omega | (simp; done) | (simp; omega) | (simp at *; omega))) | ((with_reducible refine below_set ?_ ?_ _); · (first | exact Nat.le_refl _ | omega | (simp; done) | (simp; omega) | (simp at *; omega))) | ((with_reducible refine below_via (by with_reducible assumption) ?_ ?_); · (first | exact Nat.le_refl _ | omega | (simp; done) | (simp; omega) | (simp at *; omega))))))
  have hs1 := hb1.size
  simp only [World.size_alloc] at hs1
  have HA := Lib.hid (show w1.cell? ⟨W.heap.size, 0, none⟩ = some (.slice pA st.n pc) ∧ w1.cell? ⟨W.heap.size, 1, none⟩ = some (.slice gA st.m gc) ∧ w1.cell? ⟨W.heap.size, 2, none⟩ = some (.int .i64 st.lots) from ⟨cell_below_of hb1 (by (repeat' refine And.intro ?_ ?_) <;> (repeat (first | (with_reducible assumption) | (simp; done) | (with_reducible refine cell_drew_of ?_) | (with_reducible refine cell_drewN_of ?_) | (with_reducible refine cell_below_of (by with_reducible assumption) ?_) | ((with_reducible refine cell_new_of ?_ ?_) <;> (first | (with_reducible rfl) | (simp; done))) | ((with_reducible refine fro_new_of ?_) <;> (first | (with_reducible rfl) | (simp; done))) | (with_reducible refine cell_alloc_of _ ?_) | (with_reducible refine cell_set_of _ (by (first | exact Nat.le_refl _ | omega | (simp; done) | (simp; omega))) ?_) | (with_reducible refine fro_drew_of ?_) | (with_reducible refine fro_drewN_of ?_) | (with_reducible refine fro_below_of (by with_reducible assumption) (by (first | exact Nat.le_refl _ | omega | (simp; done) | (simp; omega))) ?_) | (with_reducible refine fro_alloc_of _ (by (first | exact Nat.le_refl _ | omega | (simp; done) | (simp; omega))) ?_) | (with_reducible refine fro_set_of _ ?_)))), cell_below_of hb1 (by (repeat' refine And.intro ?_ ?_) <;> (repeat (first | (with_reducible assumption) | (simp; done) | (with_reducible refine cell_drew_of ?_) | (with_reducible refine cell_drewN_of ?_) | (with_reducible refine cell_below_of (by with_reducible assumption) ?_) | ((with_reducible refine cell_new_of ?_ ?_) <;> (first | (with_reducible rfl) | (simp; done))) | ((with_reducible refine fro_new_of ?_) <;> (first | (with_reducible rfl) | (simp; done))) | (with_reducible refine cell_alloc_of _ ?_) | (with_reducible refine cell_set_of _ (by (first | exact Nat.le_refl _ | omega | (simp; done) | (simp; omega))) ?_) | (with_reducible refine fro_drew_of ?_) | (with_reducible refine fro_drewN_of ?_) | (with_reducible refine fro_below_of (by with_reducible assumption) (by (first | exact Nat.le_refl _ | omega | (simp; done) | (simp; omega))) ?_) | (with_reducible refine fro_alloc_of _ (by (first | exact Nat.le_refl _ | omega | (simp; done) | (simp; omega))) ?_) | (with_reducible refine fro_set_of _ ?_)))), cell_below_of hb1 (by (repeat' refine And.intro ?_ ?_) <;> (repeat (first | (with_reducible assumption) | (simp; done) | (with_reducible refine cell_drew_of ?_) | (with_reducible refine cell_drewN_of ?_) | (with_reducible refine cell_below_of (by with_reducible assumption) ?_) | ((with_reducible refine cell_new_of ?_ ?_) <;> (first | (with_reducible rfl) | (simp; done))) | ((with_reducible refine fro_new_of ?_) <;> (first | (with_reducible rfl) | (simp; done))) | (with_reducible refine cell_alloc_of _ ?_) | (with_reducible refine cell_set_of _ (by (first | exact Nat.le_refl _ | omega | (simp; done) | (simp; omega))) ?_) | (with_reducible refine fro_drew_of ?_) | (with_reducible refine fro_drewN_of ?_) | (with_reducible refine fro_below_of (by with_reducible assumption) (by (first | exact Nat.le_refl _ | omega | (simp; done) | (simp; omega))) ?_) | (with_reducible refine fro_alloc_of _ (by (first | exact Nat.le_refl _ | omega | (simp; done) | (simp; omega))) ?_) | (with_reducible refine fro_set_of _ ?_))))⟩)
  clear hb1
  by_cases h0 : st.check = 0
  · have hnb : (st.check != 0) = false := by simpa using h0
    have HO := Lib.hid (St.check_ok.1 h0)
    have H0 := Lib.hid h0
    clear h0
    obtain ⟨a0, a1, a2⟩ := HA.out
    have n1 := HO.out.n1
    have n4 := HO.out.n4
    cases hg : inB grade 0 ((st.m : Int) - 1) with
    | false =>
      have HR : Hid (st.mostErr grade = 2) := Lib.hid (by unfold St.mostErr; rw [if_neg (by simp [H0.out]), if_pos hg])
      have ew : IntKind.i64.wrap ((st.m : Int) - 1) = (st.m : Int) - 1 := IntWalk.i64_in _ (by omega)
      go_wp2_with (go_at_call 82; refine (off_any _ _ _ _).mono ?_; rintro e w' ⟨rfl, rfl⟩)
      go_ret2
      exact ⟨HB1.out, .inr ⟨by rw [HR.out]; decide, by rw [HR.out]; rfl⟩⟩
    | true =>
      have hg2 : 0 ≤ grade ∧ grade ≤ (st.m : Int) - 1 := by simpa [inB] using hg
      obtain ⟨gi, rfl⟩ := Int.eq_ofNat_of_zero_le hg2.1
      have hgm : gi < st.m := by omega
      have hgi0 : (0 : Int) ≤ (gi : Int) := by omega
      have hgim : (gi : Int) < (st.m : Int) := by omega
      have HE : Hid (st.mostErr gi = if st.most (st.G gi) = bagZ then 1 else 0) := Lib.hid (by unfold St.mostErr; rw [if_neg (by simp [H0.out]), if_neg (by rw [hg]; decide), Int.toNat_natCast])
      have HGR := Lib.hid (HO.out.gd gi hgm)
      have ew : IntKind.i64.wrap ((st.m : Int) - 1) = (st.m : Int) - 1 := IntWalk.i64_in _ (by omega)
      go_wp2_with (go_at_call 82; refine (off_any _ _ _ _).mono ?_; rintro e w' ⟨rfl, rfl⟩)
      refine (rwhole_any st B pA gA pc gc _ (HS.out.later (HB1.out.mono hB))).mono ?_
      rintro e w2 ⟨⟨wA, wc, rfl, hwr, hwc⟩, hb2⟩
      have HB2 := Lib.hid (HB1.out.trans (hb2.mono (by omega)))
      have hs2 := hb2.size
      have HWR := Lib.hid (hwr.congr (Y := st.all.at) (fun k hk => (all_at_lt n4 hk).symm))
      have HA2 := Lib.hid (show _ ∧ _ ∧ _ from ⟨cell_same (hb2.block _ (by omega)) a0, cell_same (hb2.block _ (by omega)) a1, cell_same (hb2.block _ (by omega)) a2⟩)
      clear hb2 hwr a0 a1 a2
      go_wp2_with fail
      refine (rlots_any st.n n4 st.all (fun k _ => St.all_bd HO.out k) wA wc _ HWR.out).mono ?_
      rintro e w3 ⟨⟨LA, lcap, rfl, hrows, hlc⟩, hb3⟩
      rw [pre_st n4] at hrows hlc ⊢
      have HB3 := Lib.hid (HB2.out.trans (hb3.mono (by omega)))
      have hs3 := hb3.size
      have HA3 := Lib.hid (show _ ∧ _ ∧ _ from ⟨cell_same (hb3.block _ (by omega)) HA2.out.1, cell_same (hb3.block _ (by omega)) HA2.out.2.1, cell_same (hb3.block _ (by omega)) HA2.out.2.2⟩)
      have HROWS := Lib.hid hrows
      have hLl := bagsOf_length (fun k hk => (St.all_bd HO.out k).2)
      have HIN : Hid (∀ b, b ∈ bagsOf st.all → b.in_ st.all) := Lib.hid (fun b hb => mem_bagsOf.1 hb)
      have HMO : Hid (st.most (st.G gi) = st.mostOf (st.G gi) (bagsOf st.all)) := Lib.hid rfl
      generalize hL : bagsOf st.all = L at *
      clear hb3 hrows hL
      go_wp2_with fail
      go_loopw [8, 9] (fun v i wr => ∃ (k : Nat), k ≤ L.length ∧ i = .int .i64 k ∧ (∃ z : Int, v = .int .i64 z ∧ ((z = -1 ∧ st.mostOf (st.G gi) (L.take k) = bagZ) ∨ ∃ j : Nat, z = j ∧ j < L.length ∧ L[j]? = some (st.mostOf (st.G gi) (L.take k)) ∧ 0 < (st.mostOf (st.G gi) (L.take k)).size)) ∧ Hid (Below w3.heap.size w3 wr)) (fun _ i _ => L.length - (intOf i).toNat)
      case atStart => exact ⟨0, by omega, rfl, ⟨-1, rfl, .inl ⟨rfl, rfl⟩⟩, Lib.hid (Below.refl _ _)⟩
      case round =>
        obtain ⟨k, hk, rfl, ⟨z, rfl, hz⟩, hbw⟩ := hrel
        have hsw := hbw.out.size
        have HBW := Lib.hid (HB3.out.trans (hbw.out.mono (by omega)))
        have hsW := HBW.out.size
        obtain ⟨a0, a1, a2⟩ := HA3.out
        have a0 := cell_same (hbw.out.block _ (by omega)) a0
        have a1 := cell_same (hbw.out.block _ (by omega)) a1
        have a2 := cell_same (hbw.out.block _ (by omega)) a2
        by_cases hlt : k < L.length
        · obtain ⟨x, hx⟩ : ∃ x, L[k]? = some x := ⟨L[k], List.getElem?_eq_getElem hlt⟩
          obtain ⟨lb, lo, v, rfl, hlb, l0, rA, rc, rfl, hrc, hri, _⟩ := HROWS.out k x hx
          have l0 := cell_same (hbw.out.block _ hlb) l0
          obtain ⟨gb, go, rfl, hgb, g0, g1⟩ := (HS.out.g.below (HBW.out.mono hB)) gi hgm
          have hk0 : (0 : Int) ≤ (k : Int) := by omega
          have hkn : (k : Int) < (L.length : Int) := by omega
          have HRI := Lib.hid hri
          have hxi := HIN.out x (List.mem_of_getElem? hx)
          have HXR := Lib.hid (fun k hk => St.in_all hxi k hk (by omega))
          have HXB := Lib.hid (bagOf_at_in n4 hxi)
          have HTK : Hid (st.mostOf (st.G gi) (L.take (k + 1)) = st.mostStep (st.G gi) (st.mostOf (st.G gi) (L.take k)) x) := Lib.hid (by
            rw [List.take_add_one, hx]
            exact St.mostOf_snoc st (st.G gi) (L.take k) x)
          have HX := Lib.hid hx
          obtain ⟨o, ho⟩ : ∃ o, o = st.mostOf (st.G gi) (L.take k) := ⟨_, rfl⟩
          rw [← ho] at hz HTK
          have HOO := Lib.hid ho
          obtain ⟨tk, htk⟩ : ∃ tk, tk = (decide (o.size < x.size) && st.has x (st.G gi)) := ⟨_, rfl⟩
          have HT := Lib.hid htk
          have HZ := Lib.hid hz
          clear hri hx ho htk hxi
          go_upto_region 11 with fail
          go_cut [57] (fun c wx => c = .bool tk ∧ Hid (Below wr.heap.size wr wx))
          case first =>
            cases hh : st.has x (st.G gi) with
            | false =>
              have HTF : Hid (tk = false) := Lib.hid (by rw [HT.out, hh]; simp)
              have hhb : st.has (bagOf x.at st.n) (st.G gi) = false := by rw [HXB.out]; exact hh
              refine region_qbw (by kernel_rfl) (by kernel_rfl) ?_
              have x0 := cell_regrown a0
              have x1 := cell_regrown a1
              have x2 := cell_regrown a2
              have x3 := cell_regrown l0
              have x4 := cell_regrown g0
              have x5 := cell_regrown g1
              clear a0 a1 a2 l0 g0 g1
              repeat (first | go_big_quiet_step (first | (go_at_call 85; exact Calls.regrown_of (rhas_any st HO.out B pA (some ⟨gb, go, none⟩) pc gc rA rc x.at (st.G gi) HGR.out _ (HS.out.later ((HBW.out.trans ((below_regrown _ _ _).mono hsW)).mono hB)) (HRI.out.later (hbw.out.trans ((below_regrown _ _ _).mono hsw))) HXR.out))) | quiet_step (first | (go_at_call 85; exact Calls.regrown_of (rhas_any st HO.out B pA (some ⟨gb, go, none⟩) pc gc rA rc x.at (st.G gi) HGR.out _ (HS.out.later ((HBW.out.trans ((below_regrown _ _ _).mono hsW)).mono hB)) (HRI.out.later (hbw.out.trans ((below_regrown _ _ _).mono hsw))) HXR.out))))
              refine wpQuiet_nil ?_; intro wq hbq
              clear x0 x1 x2 x3 x4 x5
              have HBQ := Lib.hid hbq
              clear hbq
              go_wp2_with fail
              go_meet
              exact ⟨by rw [HTF.out], HBQ⟩
            | true =>
              have hhb : st.has (bagOf x.at st.n) (st.G gi) = true := by rw [HXB.out]; exact hh
              rcases hz with ⟨rfl, hoz⟩ | ⟨j, rfl, hjl, hoj, hopos⟩
              · have HTF : Hid (tk = true) := Lib.hid (by rw [HT.out, hh, hoz]; have := St.has_pos hh; simp; exact this)
                refine region_qbw (by kernel_rfl) (by kernel_rfl) ?_
                have x0 := cell_regrown a0
                have x1 := cell_regrown a1
                have x2 := cell_regrown a2
                have x3 := cell_regrown l0
                have x4 := cell_regrown g0
                have x5 := cell_regrown g1
                clear a0 a1 a2 l0 g0 g1
                repeat (first | go_big_quiet_step (first | (go_at_call 85; exact Calls.regrown_of (rhas_any st HO.out B pA (some ⟨gb, go, none⟩) pc gc rA rc x.at (st.G gi) HGR.out _ (HS.out.later ((HBW.out.trans ((below_regrown _ _ _).mono hsW)).mono hB)) (HRI.out.later (hbw.out.trans ((below_regrown _ _ _).mono hsw))) HXR.out))) | quiet_step (first | (go_at_call 85; exact Calls.regrown_of (rhas_any st HO.out B pA (some ⟨gb, go, none⟩) pc gc rA rc x.at (st.G gi) HGR.out _ (HS.out.later ((HBW.out.trans ((below_regrown _ _ _).mono hsW)).mono hB)) (HRI.out.later (hbw.out.trans ((below_regrown _ _ _).mono hsw))) HXR.out))))
                refine wpQuiet_nil ?_; intro wq hbq
                clear x0 x1 x2 x3 x4 x5
                have HBQ := Lib.hid hbq
                clear hbq
                go_wp2_with fail
                go_meet
                exact ⟨by rw [HTF.out], HBQ⟩
              · have HTF : Hid (tk = decide (o.size < x.size)) := Lib.hid (by rw [HT.out, hh, Bool.and_true])
                obtain ⟨lb', lo', v', hA', _, m0, rA', rc', rfl, hrc', hri', _⟩ := HROWS.out j o hoj
                injection hA' with hA'
                injection hA' with e1 e2
                subst e1 e2
                have m0 := cell_same (hbw.out.block _ hlb) m0
                have HRI2 := Lib.hid hri'
                have hoi := HIN.out o (List.mem_of_getElem? hoj)
                have HXR2 := Lib.hid (fun k hk => St.in_all hoi k hk (by omega))
                have HOB := Lib.hid (bagOf_at_in n4 hoi)
                have hj0 : (0 : Int) ≤ (j : Int) := by omega
                have hjn : (j : Int) < (L.length : Int) := by omega
                have hjm : ¬ (j : Int) < 0 := by omega
                clear hri' hoj hoi
                refine region_qbw (by kernel_rfl) (by kernel_rfl) ?_
                have x0 := cell_regrown a0
                have x1 := cell_regrown a1
                have x2 := cell_regrown a2
                have x3 := cell_regrown l0
                have x4 := cell_regrown g0
                have x5 := cell_regrown g1
                have x6 := cell_regrown m0
                clear a0 a1 a2 l0 g0 g1 m0
                repeat (first | go_big_quiet_step (first | (go_at_call 85; exact Calls.regrown_of (rhas_any st HO.out B pA (some ⟨gb, go, none⟩) pc gc rA rc x.at (st.G gi) HGR.out _ (HS.out.later ((HBW.out.trans ((below_regrown _ _ _).mono hsW)).mono hB)) (HRI.out.later (hbw.out.trans ((below_regrown _ _ _).mono hsw))) HXR.out)) | (go_at_call_of 86 (Value.slice rA st.n rc); exact Calls.regrown_of (rsize_bel st HO.out rA rc x.at _ (HRI.out.later (hbw.out.trans ((below_regrown _ _ _).mono hsw))) HXR.out)) | (go_at_call_of 86 (Value.slice rA' st.n rc'); exact Calls.regrown_of (rsize_bel st HO.out rA' rc' o.at _ (HRI2.out.later (hbw.out.trans ((below_regrown _ _ _).mono hsw))) HXR2.out))) | quiet_step (first | (go_at_call 85; exact Calls.regrown_of (rhas_any st HO.out B pA (some ⟨gb, go, none⟩) pc gc rA rc x.at (st.G gi) HGR.out _ (HS.out.later ((HBW.out.trans ((below_regrown _ _ _).mono hsW)).mono hB)) (HRI.out.later (hbw.out.trans ((below_regrown _ _ _).mono hsw))) HXR.out)) | (go_at_call_of 86 (Value.slice rA st.n rc); exact Calls.regrown_of (rsize_bel st HO.out rA rc x.at _ (HRI.out.later (hbw.out.trans ((below_regrown _ _ _).mono hsw))) HXR.out)) | (go_at_call_of 86 (Value.slice rA' st.n rc'); exact Calls.regrown_of (rsize_bel st HO.out rA' rc' o.at _ (HRI2.out.later (hbw.out.trans ((below_regrown _ _ _).mono hsw))) HXR2.out))))
                refine wpQuiet_nil ?_; intro wq hbq
                clear x0 x1 x2 x3 x4 x5 x6
                rw [HXB.out, HOB.out]
                have HBQ := Lib.hid hbq
                clear hbq
                go_wp2_with fail
                go_meet
                exact ⟨by rw [HTF.out], HBQ⟩
          case rest =>
            obtain ⟨rfl, HBQ⟩ := hcut
            have hbw2 := Lib.hid (hbw.out.trans (HBQ.out.mono hsw))
            have HLT := Lib.hid hlt
            clear a0 a1 a2 l0 g0 g1
            cases tk with
            | true =>
              have HNEW : Hid (st.mostOf (st.G gi) (L.take (k + 1)) = x ∧ 0 < x.size) := Lib.hid (by
                have h := HT.out.symm
                simp only [Bool.and_eq_true] at h
                refine ⟨?_, St.has_pos h.2⟩
                rw [HTK.out]
                unfold St.mostStep
                rw [if_pos (by rw [h.1, h.2]; rfl)])
              go_wp2_with fail
              go_roundw
              case rel => exact ⟨k + 1, HLT.out, by go_num, ⟨_, rfl, .inr ⟨k, rfl, HLT.out, by rw [HNEW.out.1]; exact HX.out, by rw [HNEW.out.1]; exact HNEW.out.2⟩⟩, hbw2⟩
              case measure => have := HLT.out; simp [intOf]; omega
            | false =>
              have HNEW : Hid (st.mostOf (st.G gi) (L.take (k + 1)) = o) := Lib.hid (by
                rw [HTK.out]
                unfold St.mostStep
                rw [if_neg (by rw [← HT.out]; decide)])
              go_wp2_with fail
              go_roundw
              case rel => exact ⟨k + 1, HLT.out, by go_num, ⟨_, rfl, by rw [HNEW.out]; exact HZ.out⟩, hbw2⟩
              case measure => have := HLT.out; simp [intOf]; omega
        · have hk' : k = L.length := by omega
          have hge : ¬ (k : Int) < (L.length : Int) := by omega
          have HMX : Hid (st.mostOf (st.G gi) (L.take k) = st.most (st.G gi)) := Lib.hid (by rw [hk', List.take_length, HMO.out])
          rw [HMX.out] at hz
          rcases hz with ⟨rfl, hoz⟩ | ⟨j, rfl, hjl, hoj, hopos⟩
          · have HR : Hid (st.mostErr gi = 1) := Lib.hid (by rw [HE.out, if_pos hoz])
            clear hoz hk'
            go_wp2_with fail
            go_ret2
            exact ⟨HBW.out, .inr ⟨by rw [HR.out]; decide, by rw [HR.out]; rfl⟩⟩
          · have HR : Hid (st.mostErr gi = 0) := Lib.hid (by
              rw [HE.out, if_neg]
              intro h
              rw [h] at hopos
              exact absurd hopos (by decide))
            obtain ⟨lb', lo', v', rfl, hlb, m0, rA', rc', rfl, hrc', hri', _⟩ := HROWS.out j _ hoj
            have m0 := cell_same (hbw.out.block _ hlb) m0
            have HRI2 := Lib.hid (hri'.later hbw.out)
            have hj0 : (0 : Int) ≤ (j : Int) := by omega
            have hjn : (j : Int) < (L.length : Int) := by omega
            have hjm : ¬ (j : Int) < 0 := by omega
            clear hri' hoj hopos hk'
            go_wp2_with fail
            go_ret2
            exact ⟨HBW.out, .inl ⟨HR.out, rA', rc', rfl, by rw [Int.toNat_natCast]; exact HRI2.out⟩⟩
  · have hnb : (st.check != 0) = true := by simpa using h0
    have HR : Hid (st.mostErr grade = st.check) := Lib.hid (by unfold St.mostErr; rw [if_pos h0])
    have H0 := Lib.hid h0
    clear h0
    go_wp2_with fail
    go_ret2
    exact ⟨HB1.out, .inr ⟨by rw [HR.out]; exact H0.out, by rw [HR.out]; rfl⟩⟩
end Go.Proofs.Ytegmomappbehcaa
