/- The reference: Spare. -/
import Derived.Test.YtegmomappbehcaaTk
import Derived.Test.YtegmomappbehcaaWv
set_option linter.unusedSimpArgs false
set_option linter.unusedVariables false
namespace Go.Proofs.Ytegmomappbehcaa
open Go.RowKit Go.Shelf

/-- a row of a call's own that may be written -/
def Row4 (w : World) (b n : Nat) (x : Bag) : Prop := (∀ j, j < n → w.cell? ⟨b, j, none⟩ = some (.int .i64 (x.at j))) ∧ ∀ i, w.frozen? ⟨b, i, none⟩ = false
theorem Row4.same {w w' : World} {b n : Nat} {x : Bag} (h : Row4 w b n x) (hb : w'.heap[b]? = w.heap[b]?) : Row4 w' b n x := ⟨fun j hj => cell_same hb (h.1 j hj), fun i => fro_same hb (h.2 i)⟩
theorem Row4.set {w : World} {b n : Nat} {x : Bag} (h : Row4 w b n x) {p : Nat} (hp : p < n) (h4 : n ≤ 4) (v : Int) : Row4 (w.setCell ⟨b, p, none⟩ (.int .i64 v)) b n (x.set p v) := by
  refine ⟨fun j hj => ?_, fun i => fro_set_of _ (h.2 i)⟩
  rw [Bag.at_set (by omega)]
  by_cases e : j = p
  · subst e
    rw [if_pos rfl]
    exact World.cell?_setCell_same' _ _ _ (by rw [h.1 j hj]; rfl)
  · rw [if_neg e, World.cell?_setCell_other _ _ _ _ (by intro e'; injection e' with _ e' _; omega)]
    exact h.1 j hj
theorem Row4.row {w : World} {b n : Nat} {x : Bag} (h : Row4 w b n x) : IntRow w w.heap.size (some ⟨b, 0, none⟩) n x.at := fun k hk => ⟨b, 0, rfl, World.block_lt_of_cell? w _ (h.1 k hk), by rw [Nat.zero_add]; exact h.1 k hk⟩
theorem Row4.lt {w : World} {b n : Nat} {x : Bag} (h : Row4 w b n x) (hn : 0 < n) : b < w.heap.size := World.block_lt_of_cell? w _ (h.1 0 hn)

set_option maxRecDepth 100000 in
set_option maxHeartbeats 4000000 in
theorem rSpare_any (st : St) (B : Nat) (pA gA : Option Addr) (pc gc : Nat) (lA : Option Addr) (ln lc : Nat) (X : Nat → Int) (grade p : Int) (W : World) (hs : StRow W B st pA pc gA gc) (hl : IntRow W W.heap.size lA ln X) (hn : ln ≤ 1000) :
    Calls Try.prog 25 #[stV pA st.n pc gA st.m gc st.lots, .slice lA ln lc, .int .i64 grade, .int .i64 p] W fun e W' => e = .returned (nuV (st.spareR ln X grade p)) ∧ Below W.heap.size W W' := by
  have hm := hs.m
  have HS := Lib.hid hs; have HL := Lib.hid hl; have hB := hs.lt; clear hs hl
  go_enter Try.func25, Try.ntmps25
  go_wp2_with fail
  refine (rLot_any st B pA gA pc gc lA ln lc X _ (HS.out.later (by repeat (first | (with_reducible exact Below.refl _ _) | (with_reducible refine Below.drew ?_) | (with_reducible refine below_drewN ?_ _) | ((with_reducible refine below_alloc ?_ ?_ _); · (first | exact Nat.le_refl _ | omega | (simp; done) | (simp; omega) | (simp at *; omega))) | ((with_reducible refine below_set ?_ ?_ _); · (first | exact Nat.le_refl _ | omega | (simp; done) | (simp; omega) | (simp at *; omega))) | ((with_reducible refine below_via (by with_reducible assumption) ?_ ?_); · (first | exact Nat.le_refl _ | omega | (simp; done) | (simp; omega) | (simp at *; omega)))))) (HL.out.later (by repeat (first | (with_reducible exact Below.refl _ _) | (with_reducible refine Below.drew ?_) | (with_reducible refine below_drewN ?_ _) | ((with_reducible refine below_alloc ?_ ?_ _); · (first | exact Nat.le_refl _ | omega | (simp; done) | (simp; omega) | (simp at *; omega))) | ((with_reducible refine below_set ?_ ?_ _); · (first | exact Nat.le_refl _ | omega | (simp; done) | (simp; omega) | (simp at *; omega))) | ((with_reducible refine below_via (by with_reducible assumption) ?_ ?_); · (first | exact Nat.le_refl _ | omega | (simp; done) | (simp; omega) | (simp at *; omega)))))) hn).mono ?_; rintro e w1 ⟨rfl, hb1⟩; have HB1 := Lib.hid (show Below W.heap.size W w1 from (by repeat (first | (with_reducible exact Below.refl _ _) | (with_reducible refine Below.drew ?_) | (with_reducible refine below_drewN ?_ _) | ((with_reducible refine below_alloc ?_ ?_ _); · (first | exact Nat.le_refl _ | omega | (simp; done) | (simp; omega) | (simp at *; omega))) | ((with_reducible refine below_set ?_ ?_ _); · (first | exact Nat.le_refl _ | omega | (simp; done) | (simp; omega) | (simp at *; omega))) | ((with_reducible refine below_via (by with_reducible assumption) ?_ ?_); · (first | exact Nat.le_refl _ | omega | (simp; done) | (simp; omega) | (simp at *; omega)))))); have hs1 := hb1.size; simp only [World.size_alloc] at hs1; have HA := Lib.hid (show w1.cell? ⟨W.heap.size, 0, none⟩ = some (.slice pA st.n pc) ∧ w1.cell? ⟨W.heap.size, 1, none⟩ = some (.slice gA st.m gc) ∧ w1.cell? ⟨W.heap.size, 2, none⟩ = some (.int .i64 st.lots) from ⟨cell_below_of hb1 (by (repeat' refine And.intro ?_ ?_) <;> (repeat (first | (with_reducible assumption) | (simp; done) | (with_reducible refine cell_drew_of ?_) | (with_reducible refine cell_drewN_of ?_) | (with_reducible refine cell_below_of (by with_reducible assumption) ?_) | ((with_reducible refine cell_new_of ?_ ?_) <;> (first | (with_reducible rfl) | (simp; done))) | ((with_reducible refine fro_new_of ?_) <;> (first | (with_reducible rfl) | (simp; done))) | (with_reducible refine cell_alloc_of _ ?_) | (with_reducible refine cell_set_of _ (by (first | exact Nat.le_refl _ | omega | (simp; done) | (simp; omega))) ?_) | (with_reducible refine fro_drew_of ?_) | (with_reducible refine fro_drewN_of ?_) | (with_reducible refine fro_below_of (by with_reducible assumption) (by (first | exact Nat.le_refl _ | omega | (simp; done) | (simp; omega))) ?_) | (with_reducible refine fro_alloc_of _ (by (first | exact Nat.le_refl _ | omega | (simp; done) | (simp; omega))) ?_) | (with_reducible refine fro_set_of _ ?_)))), cell_below_of hb1 (by (repeat' refine And.intro ?_ ?_) <;> (repeat (first | (with_reducible assumption) | (simp; done) | (with_reducible refine cell_drew_of ?_) | (with_reducible refine cell_drewN_of ?_) | (with_reducible refine cell_below_of (by with_reducible assumption) ?_) | ((with_reducible refine cell_new_of ?_ ?_) <;> (first | (with_reducible rfl) | (simp; done))) | ((with_reducible refine fro_new_of ?_) <;> (first | (with_reducible rfl) | (simp; done))) | (with_reducible refine cell_alloc_of _ ?_) | (with_reducible refine cell_set_of _ (by (first | exact Nat.le_refl _ | omega | (simp; done) | (simp; omega))) ?_) | (with_reducible refine fro_drew_of ?_) | (with_reducible refine fro_drewN_of ?_) | (with_reducible refine fro_below_of (by with_reducible assumption) (by (first | exact Nat.le_refl _ | omega | (simp; done) | (simp; omega))) ?_) | (with_reducible refine fro_alloc_of _ (by (first | exact Nat.le_refl _ | omega | (simp; done) | (simp; omega))) ?_) | (with_reducible refine fro_set_of _ ?_)))), cell_below_of hb1 (by (repeat' refine And.intro ?_ ?_) <;> (repeat (first | (with_reducible assumption) | (simp; done) | (with_reducible refine cell_drew_of ?_) | (with_reducible refine cell_drewN_of ?_) | (with_reducible refine cell_below_of (by with_reducible assumption) ?_) | ((with_reducible refine cell_new_of ?_ ?_) <;> (first | (with_reducible rfl) | (simp; done))) | ((with_reducible refine fro_new_of ?_) <;> (first | (with_reducible rfl) | (simp; done))) | (with_reducible refine cell_alloc_of _ ?_) | (with_reducible refine cell_set_of _ (by (first | exact Nat.le_refl _ | omega | (simp; done) | (simp; omega))) ?_) | (with_reducible refine fro_drew_of ?_) | (with_reducible refine fro_drewN_of ?_) | (with_reducible refine fro_below_of (by with_reducible assumption) (by (first | exact Nat.le_refl _ | omega | (simp; done) | (simp; omega))) ?_) | (with_reducible refine fro_alloc_of _ (by (first | exact Nat.le_refl _ | omega | (simp; done) | (simp; omega))) ?_) | (with_reducible refine fro_set_of _ ?_))))⟩)
  clear hb1
  by_cases h0 : st.askErr ln X = 0
  · have hnb : (st.askErr ln X != 0) = false := by simpa using h0
    have HR0 : Hid (st.spareR ln X grade p = if inB grade 0 ((st.m : Int) - 1) = false ∨ inB p 0 (st.n - 1) = false then (0, 2)
      else if st.spareN (bagOf X ln) p.toNat (st.G grade.toNat) (st.all.at p.toNat - (bagOf X ln).at p.toNat).toNat < 0 then (0, 1) else (st.spareN (bagOf X ln) p.toNat (st.G grade.toNat) (st.all.at p.toNat - (bagOf X ln).at p.toNat).toNat, 0)) := Lib.hid (by unfold St.spareR; rw [if_neg (by simp [h0])])
    have HST := Lib.hid (St.askErr_ok h0).1; have HX := Lib.hid (ask_rng h0); obtain rfl : ln = st.n := (St.askErr_ok h0).2.2
    obtain ⟨a0, a1, a2⟩ := HA.out
    have hs1' := HB1.out.size
    have n1 := HST.out.n1
    have n4 := HST.out.n4
    have ew1 : IntKind.i64.wrap ((st.m : Int) - 1) = (st.m : Int) - 1 := IntWalk.i64_in _ (by omega)
    have ew2 : IntKind.i64.wrap ((st.n : Int) - 1) = (st.n : Int) - 1 := IntWalk.i64_in _ (by omega)
    clear h0
    cases hg : inB grade 0 ((st.m : Int) - 1) with
    | false =>
      have HR : Hid (st.spareR st.n X grade p = (0, 2)) := Lib.hid (by rw [HR0.out, if_pos (.inl hg)])
      go_wp2_with (go_at_call 82; refine (off_any _ _ _ _).mono ?_; rintro e w' ⟨rfl, rfl⟩)
      go_ret2
      exact ⟨by rw [HR.out]; rfl, HB1.out⟩
    | true =>
      cases hp : inB p 0 ((st.n : Int) - 1) with
      | false =>
        have HR : Hid (st.spareR st.n X grade p = (0, 2)) := Lib.hid (by rw [HR0.out, if_pos (.inr hp)])
        go_wp2_with (go_at_call 82; refine (off_any _ _ _ _).mono ?_; rintro e w' ⟨rfl, rfl⟩)
        go_ret2
        exact ⟨by rw [HR.out]; rfl, HB1.out⟩
      | true =>
        have hg2 : 0 ≤ grade ∧ grade ≤ (st.m : Int) - 1 := by simpa [inB] using hg
        have hp2 : 0 ≤ p ∧ p ≤ (st.n : Int) - 1 := by simpa [inB] using hp
        obtain ⟨gi, rfl⟩ := Int.eq_ofNat_of_zero_le hg2.1
        obtain ⟨pi, rfl⟩ := Int.eq_ofNat_of_zero_le hp2.1
        have hgm : gi < st.m := by omega
        have hpn : pi < st.n := by omega
        have hg0 : (0 : Int) ≤ (gi : Int) := by omega
        have hgi : (gi : Int) < (st.m : Int) := by omega
        have hp0 : (0 : Int) ≤ (pi : Int) := by omega
        have hpi : (pi : Int) < (st.n : Int) := by omega
        have hin := rng_in HST.out HX.out
        have hxp := HX.out pi hpn
        have hsp := (HST.out.pk pi hpn).1
        have HXB := Lib.hid (fun k (hk : k < st.n) => bagOf_at (X := X) hk (show k < 4 by omega))
        have HIN := Lib.hid hin
        have HR : Hid (st.spareR st.n X gi pi = if st.spareN (bagOf X st.n) pi (st.G gi) ((st.P pi).s - X pi).toNat < 0 then (0, 1) else (st.spareN (bagOf X st.n) pi (st.G gi) ((st.P pi).s - X pi).toNat, 0)) := Lib.hid (by
          rw [HR0.out, if_neg (by rw [hg, hp]; decide), Int.toNat_natCast, Int.toNat_natCast, all_at_lt n4 hpn, HXB.out pi hpn])
        have HGR := Lib.hid (HST.out.gd gi hgm)
        have hnone : lA = none → st.n = 0 ∧ lc = 0 := fun e => by
          obtain ⟨_, _, hA, _⟩ := HL.out 0 (by omega)
          rw [e] at hA
          cases hA
        generalize hxe : bagOf X st.n = x at *
        clear hin hxe
        go_wp2_with (first | (go_at_call 82; refine (off_any _ _ _ _).mono ?_; rintro e w' ⟨rfl, rfl⟩) | (at_builtin; refine append_ints rfl (.tmp 34) (.tmp 35) rfl w1.heap.size (.slice (some ⟨w1.heap.size, 0, none⟩) 0 0) 0 [] rfl (World.ownsRow_made w1 #[] 0 (Nat.le_refl _) (Nat.zero_le _) rfl) lA st.n lc X rfl hnone ((HL.out.later HB1.out).later (by repeat (first | (with_reducible exact Below.refl _ _) | (with_reducible refine Below.drew ?_) | (with_reducible refine below_drewN ?_ _) | ((with_reducible refine below_alloc ?_ ?_ _); · (first | exact Nat.le_refl _ | omega | (simp; done) | (simp; omega) | (simp at *; omega))) | ((with_reducible refine below_set ?_ ?_ _); · (first | exact Nat.le_refl _ | omega | (simp; done) | (simp; omega) | (simp at *; omega))) | ((with_reducible refine below_via (by with_reducible assumption) ?_ ?_); · (first | exact Nat.le_refl _ | omega | (simp; done) | (simp; omega) | (simp at *; omega)))))) (by omega) (by simp) ?_))
        intro v1 w2 hown1 hgr1
        have hs2 := hgr1.size
        simp only [World.size_alloc] at hs2
        have HB2 : Hid (Below w1.heap.size w1 w2) := Lib.hid ⟨hgr1.os, hgr1.tape, hgr1.output, by omega, fun i hi => (hgr1.block i (by simp; omega) (by intro e; simp [Value.ownBlock] at e; omega)).trans (Below.heap_alloc _ _ _ hi)⟩
        obtain ⟨mb, mc, hv1e, hmb, hrow⟩ : ∃ mb mc, v1 = .slice (some ⟨mb, 0, none⟩) st.n mc ∧ (w1.heap.size ≤ mb ∧ mb < w2.heap.size ∧ st.n ≤ mc) ∧ Row4 w2 mb st.n (x.set pi (x.at pi)) := by
          rcases hown1.2 with ⟨_, h0⟩ | ⟨g, cap, cur, e1, hb1, hg1, hc1, _⟩
          · omega
          · refine ⟨g, cap, by simpa using e1, ⟨hb1, (Array.getElem?_eq_some_iff.1 hg1).1, by simpa using hc1⟩, fun j hj => ?_, fun i => frozen_of_row _ _ _ _ _ hg1⟩
            have e2 : (numCells X st.n)[j]? = some (.int .i64 ((x.set pi (x.at pi)).at j)) := by
              rw [numCells_get _ hj, Bag.at_set (by omega)]
              by_cases e : j = pi
              · subst e; rw [if_pos rfl, HXB.out j hj]
              · rw [if_neg e, HXB.out j hj]
            have h1 := hown1.cells (g := g) (by rw [e1]; rfl) j _ (by simpa using e2)
            rwa [show ((⟨g, 0, none⟩ : Addr).add j) = ⟨g, j, none⟩ by by_cases hj : j = 0 <;> simp [Addr.add, hj]] at h1
        subst hv1e
        have HROW := Lib.hid hrow
        clear hown1 hgr1 hrow
        go_wp2_with fail
        go_loopw [11, 13] (fun v i wr => ∃ (k : Nat), (k : Int) ≤ (st.P pi).s - X pi + 1 ∧ i = .int .i64 k ∧ v = .int .i64 (st.spareI x pi (st.G gi) ((k : Int) - 1)) ∧ Hid (∃ m, Row4 wr mb st.n (x.set pi m)) ∧ Hid (w2.grownBy wr (some mb))) (fun _ i _ => ((st.P pi).s - X pi + 1 - intOf i).toNat)
        case atStart => exact ⟨0, by omega, rfl, by unfold St.spareI; rw [if_pos (by omega)], Lib.hid ⟨_, HROW.out⟩, Lib.hid (World.grownBy.refl _ _)⟩
        case round =>
          obtain ⟨k, hk, rfl, rfl, hrow, hg3⟩ := hrel
          have hsz := hg3.out.size
          have HBW : Hid (Below W.heap.size W wr) := Lib.hid ((HB1.out.trans (HB2.out.mono hs1')).trans (gb_below hg3.out (by omega) (by omega)))
          have hsW := HBW.out.size
          have a0 := cell_same (hg3.out.block _ (by omega) (by intro e; injection e with e; omega)) (cell_same (HB2.out.block _ (by omega)) HA.out.1)
          have a1 := cell_same (hg3.out.block _ (by omega) (by intro e; injection e with e; omega)) (cell_same (HB2.out.block _ (by omega)) HA.out.2.1)
          have a2 := cell_same (hg3.out.block _ (by omega) (by intro e; injection e with e; omega)) (cell_same (HB2.out.block _ (by omega)) HA.out.2.2)
          obtain ⟨b, o, rfl, hbl, c0, _⟩ := (HS.out.p.below (HBW.out.mono hB)) pi hpn
          obtain ⟨lb, lo, rfl, hlb, l0⟩ := (HL.out.below HBW.out) pi hpn
          have ew3 : IntKind.i64.wrap (X pi + (k : Int)) = X pi + (k : Int) := IntWalk.i64_in _ (by omega)
          obtain ⟨m, hr0⟩ := hrow.out
          have hmlt := hr0.lt (by omega)
          have m0 := hr0.1 pi hpn
          have fm := hr0.2 pi
          clear hr0
          have HBQ0 : Hid (Below wr.heap.size wr wr) := Lib.hid (Below.refl _ _)
          have hrow' := hrow
          clear hrow
          go_upto_region 9 with fail
          go_cut [49] (fun c wx => c = .bool (decide (X pi + (k : Int) ≤ (st.P pi).s)) ∧ Hid (Below wr.heap.size wr wx))
          case first =>
            refine region_qbw (by kernel_rfl) (by kernel_rfl) ?_
            have x0 := cell_regrown a0
            have x1 := cell_regrown c0
            have x2 := cell_regrown l0
            clear a0 a1 a2 c0 l0 m0 fm
            repeat (first | go_big_quiet_step (fail) | quiet_step (fail))
            refine wpQuiet_nil ?_; intro wq hbq
            clear x0 x1 x2
            have HBQ := Lib.hid hbq
            clear hbq
            go_wp2_with fail
            go_meet
            exact ⟨rfl, HBQ⟩
          case rest =>
            obtain ⟨rfl, HBQ⟩ := hcut
            have HW9 := Lib.hid (HBW.out.trans (HBQ.out.mono hsW))
            have hs9 := HBQ.out.size
            have HG9 := Lib.hid (gb_trans hg3.out (grown_of_below mb HBQ.out))
            have m9 := cell_same (HBQ.out.block _ hmlt) m0
            have f9 := fro_same (HBQ.out.block _ hmlt) fm
            have HN9 : Hid (Row4 (wc.setCell ⟨mb, pi, none⟩ (.int .i64 (X pi + (k : Int)))) mb st.n (x.set pi (X pi + (k : Int)))) := Lib.hid (by
              obtain ⟨m', hr'⟩ := hrow'.out
              have := (hr'.same (HBQ.out.block _ hmlt)).set hpn n4 (X pi + (k : Int))
              rwa [Bag.set_set] at this)
            have l9 := cell_same (HBQ.out.block _ (World.block_lt_of_cell? wr _ l0)) l0
            have q0 := cell_same (HBQ.out.block _ (World.block_lt_of_cell? wr _ a0)) a0
            have q1 := cell_same (HBQ.out.block _ (World.block_lt_of_cell? wr _ a1)) a1
            have q2 := cell_same (HBQ.out.block _ (World.block_lt_of_cell? wr _ a2)) a2
            clear a0 a1 a2 c0 l0 m0 fm
            by_cases hle : X pi + (k : Int) ≤ (st.P pi).s
            · have hd : decide (X pi + (k : Int) ≤ (st.P pi).s) = true := by simpa using hle
              rw [hd]
              obtain ⟨gb, go, rfl, hgb, g0, g1⟩ := (HS.out.g.below (HW9.out.mono hB)) gi hgm
              go_upto_region 12 with fail
              refine wp_world (fun W5 => (W5.cell? ⟨W.heap.size, 0, none⟩ = some (.slice (some ⟨b, o, none⟩) st.n pc) ∧ W5.cell? ⟨W.heap.size, 1, none⟩ = some (.slice (some ⟨gb, go, none⟩) st.m gc) ∧ W5.cell? ⟨W.heap.size, 2, none⟩ = some (.int .i64 st.lots) ∧ W5.cell? ⟨gb, go + gi * 2, none⟩ = some (.int .i64 (st.G gi).foul) ∧ W5.cell? ⟨gb, go + gi * 2 + 1, none⟩ = some (.int .i64 (st.G gi).price)) ∧
                Row4 W5 mb st.n (x.set pi (X pi + (k : Int))) ∧ w2.grownBy W5 (some mb)) ⟨⟨cell_set_of _ (by dsimp only; omega) q0, cell_set_of _ (by dsimp only; omega) q1, cell_set_of _ (by dsimp only; omega) q2, cell_set_of _ (by dsimp only; omega) g0, cell_set_of _ (by dsimp only; omega) g1⟩, HN9.out, gb_trans HG9.out (gb_set _ _ _ _)⟩ ?_
              rintro W5 ⟨⟨y0, y1, y2, y3, y4⟩, hr5, hg5⟩
              have HR5 := Lib.hid hr5
              have HG5 := Lib.hid hg5
              have hsz5 := hg5.size
              have HW5 : Hid (Below W.heap.size W W5) := Lib.hid ((HB1.out.trans (HB2.out.mono hs1')).trans (gb_below hg5 (by omega) (by omega)))
              have hsW5 := HW5.out.size
              have hyin : (x.set pi (X pi + (k : Int))).in_ st.all := Bag.set_in HIN.out (by omega) (by rw [all_at_lt n4 hpn]; omega)
              have HYR := Lib.hid (fun k hk => St.in_all hyin k hk (by omega))
              have HYB := Lib.hid (bagOf_at_in n4 hyin)
              have HST1 : Hid (∀ t, t = st.has (x.set pi (X pi + (k : Int))) (st.G gi) → (if t then (k : Int) else st.spareI x pi (st.G gi) ((k : Int) - 1)) = st.spareI x pi (st.G gi) (((k + 1 : Nat) : Int) - 1)) := Lib.hid (fun t ht => by
                have e : ((k + 1 : Nat) : Int) - 1 = (k : Int) := by omega
                rw [e, St.spareI_step (i := (k : Int)) (by omega), HXB.out pi hpn, ht])
              clear hr5 hg5 hyin q0 q1 q2 g0 g1 m9 f9 l9
              cases ht : st.has (x.set pi (X pi + (k : Int))) (st.G gi) with
              | true =>
                have HT := Lib.hid ht
                have htb : st.has (bagOf (x.set pi (X pi + (k : Int))).at st.n) (st.G gi) = true := by rw [HYB.out]; exact ht
                refine region_qbw (by kernel_rfl) (by kernel_rfl) ?_
                have x0 := cell_regrown y0
                have x1 := cell_regrown y1
                have x2 := cell_regrown y2
                have x3 := cell_regrown y3
                have x4 := cell_regrown y4
                clear y0 y1 y2 y3 y4
                repeat (first | go_big_quiet_step ((go_at_call 85; exact Calls.regrown_of (rhas_any st HST.out B (some ⟨b, o, none⟩) (some ⟨gb, go, none⟩) pc gc (some ⟨mb, 0, none⟩) mc (x.set pi (X pi + (k : Int))).at (st.G gi) HGR.out _ (HS.out.later ((HW5.out.trans ((below_regrown _ _ _).mono hsW5)).mono hB)) (HR5.out.row.later (below_regrown _ _ _)) HYR.out))) | quiet_step ((go_at_call 85; exact Calls.regrown_of (rhas_any st HST.out B (some ⟨b, o, none⟩) (some ⟨gb, go, none⟩) pc gc (some ⟨mb, 0, none⟩) mc (x.set pi (X pi + (k : Int))).at (st.G gi) HGR.out _ (HS.out.later ((HW5.out.trans ((below_regrown _ _ _).mono hsW5)).mono hB)) (HR5.out.row.later (below_regrown _ _ _)) HYR.out))))
                refine wpQuiet_nil ?_; intro wq hbq
                clear x0 x1 x2 x3 x4
                rw [htb]
                have hst1 := HST1.out true HT.out.symm
                have HGQ := Lib.hid (gb_trans HG5.out (grown_of_below mb hbq))
                have HRQ := Lib.hid (HR5.out.same (hbq.block _ (HR5.out.lt (by omega))))
                clear hbq
                go_wp2_with fail
                go_roundw
                case rel => exact ⟨k + 1, by omega, by go_num, congrArg _ hst1, Lib.hid ⟨_, HRQ.out⟩, HGQ⟩
                case measure => simp [intOf]; omega
              | false =>
                have HT := Lib.hid ht
                have htb : st.has (bagOf (x.set pi (X pi + (k : Int))).at st.n) (st.G gi) = false := by rw [HYB.out]; exact ht
                refine region_qbw (by kernel_rfl) (by kernel_rfl) ?_
                have x0 := cell_regrown y0
                have x1 := cell_regrown y1
                have x2 := cell_regrown y2
                have x3 := cell_regrown y3
                have x4 := cell_regrown y4
                clear y0 y1 y2 y3 y4
                repeat (first | go_big_quiet_step ((go_at_call 85; exact Calls.regrown_of (rhas_any st HST.out B (some ⟨b, o, none⟩) (some ⟨gb, go, none⟩) pc gc (some ⟨mb, 0, none⟩) mc (x.set pi (X pi + (k : Int))).at (st.G gi) HGR.out _ (HS.out.later ((HW5.out.trans ((below_regrown _ _ _).mono hsW5)).mono hB)) (HR5.out.row.later (below_regrown _ _ _)) HYR.out))) | quiet_step ((go_at_call 85; exact Calls.regrown_of (rhas_any st HST.out B (some ⟨b, o, none⟩) (some ⟨gb, go, none⟩) pc gc (some ⟨mb, 0, none⟩) mc (x.set pi (X pi + (k : Int))).at (st.G gi) HGR.out _ (HS.out.later ((HW5.out.trans ((below_regrown _ _ _).mono hsW5)).mono hB)) (HR5.out.row.later (below_regrown _ _ _)) HYR.out))))
                refine wpQuiet_nil ?_; intro wq hbq
                clear x0 x1 x2 x3 x4
                rw [htb]
                have hst1 := HST1.out false HT.out.symm
                have HGQ := Lib.hid (gb_trans HG5.out (grown_of_below mb hbq))
                have HRQ := Lib.hid (HR5.out.same (hbq.block _ (HR5.out.lt (by omega))))
                clear hbq
                go_wp2_with fail
                go_roundw
                case rel => exact ⟨k + 1, by omega, by go_num, congrArg _ hst1, Lib.hid ⟨_, HRQ.out⟩, HGQ⟩
                case measure => simp [intOf]; omega
            · have hd : decide (X pi + (k : Int) ≤ (st.P pi).s) = false := by simpa using hle
              rw [hd]
              have hkk : (k : Int) - 1 = (((st.P pi).s - X pi).toNat : Int) := by omega
              have HSI : Hid (st.spareI x pi (st.G gi) ((k : Int) - 1) = st.spareN x pi (st.G gi) ((st.P pi).s - X pi).toNat) := Lib.hid (by
                rw [hkk]
                unfold St.spareI
                rw [if_neg (by omega), Int.toNat_natCast])
              rw [HSI.out]
              by_cases hneg : st.spareN x pi (st.G gi) ((st.P pi).s - X pi).toNat < 0
              · have HRR : Hid (st.spareR st.n X gi pi = (0, 1)) := Lib.hid (by rw [HR.out, if_pos hneg])
                go_wp2_with fail
                go_ret2
                exact ⟨by rw [HRR.out]; rfl, HW9.out⟩
              · have HRR : Hid (st.spareR st.n X gi pi = (st.spareN x pi (st.G gi) ((st.P pi).s - X pi).toNat, 0)) := Lib.hid (by rw [HR.out, if_neg hneg])
                go_wp2_with fail
                go_ret2
                exact ⟨by rw [HRR.out]; rfl, HW9.out⟩
  · have hnb : (st.askErr ln X != 0) = true := by simpa using h0
    have HR : Hid (st.spareR ln X grade p = (0, st.askErr ln X)) := Lib.hid (by unfold St.spareR; rw [if_pos (by simpa using h0)])
    clear h0
    go_wp2_with fail
    go_ret2
    exact ⟨by rw [HR.out]; rfl, HB1.out⟩
end Go.Proofs.Ytegmomappbehcaa
