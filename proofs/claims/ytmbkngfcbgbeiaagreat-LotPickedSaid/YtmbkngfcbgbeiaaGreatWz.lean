/- Tells of package lot. -/
import Derived.Test.YtmbkngfcbgbeiaaGreatWy
import Derived.Test.YtmbkngfcbgbeiaaGreatWl
set_option linter.unusedSimpArgs false
set_option linter.unusedVariables false
namespace Go.Proofs.YtmbkngfcbgbeiaaGreat
open Go.RowKit Go.Shelf

def toldStep (x : Pk) (m ol oh ll lh n : Int) (t : Int × Int) : Int × Int :=
  if max 0 (n - (x.s - m)) + ol ≤ lh ∧ ll ≤ min n m + oh then (min t.1 n, n) else t
def toldN (x : Pk) (m ol oh ll lh : Int) : Nat → Int × Int
  | 0 => (7, -1)
  | k + 1 => toldStep x m ol oh ll lh (x.f + (k : Int)) (toldN x m ol oh ll lh k)
def Pk.wide (x : Pk) : Nat := (x.hi - x.f + 1).toNat
/-- how many sacks of a picking can be foul after a sample -/
def St.told (st : St) (x : Bag) (ll lh : Int) (i : Nat) : Int × Int :=
  toldN (st.P i) (x.at i) (st.lo x - (st.P i).loOf (x.at i)) (st.hi x - (st.P i).hiOf (x.at i)) ll lh (st.P i).wide
/-- a row of spans -/
def SpRow (w : World) (B : Nat) (A : Option Addr) (n : Nat) (T : Nat → Int × Int) : Prop :=
  ∀ k, k < n → ∃ b o, A = some ⟨b, o, none⟩ ∧ b < B ∧ w.cell? ⟨b, o + k * 2, none⟩ = some (.int .i64 (T k).1) ∧ w.cell? ⟨b, o + k * 2 + 1, none⟩ = some (.int .i64 (T k).2)
def spCell (T : Nat → Int × Int) (j : Nat) : Int := match j % 2 with | 0 => (T (j / 2)).1 | _ => (T (j / 2)).2
theorem spCells_succ (T : Nat → Int × Int) (n : Nat) : numCells (spCell T) ((n + 1) * 2) = numCells (spCell T) (n * 2) ++ [.int .i64 (T n).1, .int .i64 (T n).2] := by
  have e0 : spCell T (n * 2) = (T n).1 := by unfold spCell; rw [show n * 2 % 2 = 0 by omega, show n * 2 / 2 = n by omega]; rfl
  have e1 : spCell T (n * 2 + 1) = (T n).2 := by unfold spCell; rw [show (n * 2 + 1) % 2 = 1 by omega, show (n * 2 + 1) / 2 = n by omega]; rfl
  unfold numCells
  rw [show (n + 1) * 2 = n * 2 + 1 + 1 by omega, List.range_succ, List.range_succ]
  simp [e0, e1]
theorem SpRow.of_owns {w : World} {lo n : Nat} {v : Value} {T : Nat → Int × Int} (h : w.ownsRow lo 75 2 v n (numCells (spCell T) (n * 2))) : ∃ A c, v = .slice A n c ∧ SpRow w w.heap.size A n T ∧ n ≤ c := by
  rcases h.2 with ⟨rfl, h0⟩ | ⟨g, cap, cur, rfl, hb, hg, hc, _⟩
  · refine ⟨none, 0, by rw [h0], fun k hk => by omega, by omega⟩
  · refine ⟨some ⟨g, 0, none⟩, cap, rfl, fun k hk => ?_, hc⟩
    have hcell : ∀ j, j < n * 2 → w.cell? ⟨g, j, none⟩ = some (.int .i64 (spCell T j)) := fun j hj => by
      have h1 := h.cells (g := g) rfl j _ (numCells_get (spCell T) hj)
      rwa [show ((⟨g, 0, none⟩ : Addr).add j) = ⟨g, j, none⟩ by by_cases hj : j = 0 <;> simp [Addr.add, hj]] at h1
    have e0 : spCell T (k * 2) = (T k).1 := by unfold spCell; rw [show k * 2 % 2 = 0 by omega, show k * 2 / 2 = k by omega]; rfl
    have e1 : spCell T (k * 2 + 1) = (T k).2 := by unfold spCell; rw [show (k * 2 + 1) % 2 = 1 by omega, show (k * 2 + 1) / 2 = k by omega]; rfl
    refine ⟨g, 0, rfl, (Array.getElem?_eq_some_iff.1 hg).1, ?_, ?_⟩
    · rw [← e0, Nat.zero_add]; exact hcell _ (by omega)
    · rw [← e1, Nat.zero_add]; exact hcell _ (by omega)

theorem infoSp : (Tryz.prog.info? 75).map (fun i => (i.zero, i.size, i.bytes)) = some (some (.agg #[.int .i64 0, .int .i64 0]), 2, 16) := by kernel_rfl
theorem sps_under : Tryz.prog.underlying 108 = some (.slice 75) := by kernel_rfl

/-- what Tells gives -/
def TellsPost (st : St) (n : Nat) (X : Nat → Int) (opened found : Int) (W : World) (e : Ending) (W' : World) : Prop :=
  Below W.heap.size W W' ∧ ((st.sampErr n X opened found = 0 ∧ ∃ A c, e = .returned (.tuple #[.slice A st.n c, .int .i64 0]) ∧ SpRow W' W'.heap.size A st.n (st.told (bagOf X n) (st.leftLo (bagOf X n) found) (st.leftHi (bagOf X n) opened found)) ∧ st.n ≤ c) ∨
    (st.sampErr n X opened found ≠ 0 ∧ e = .returned (.tuple #[.slice none 0 0, .int .i64 (st.sampErr n X opened found)])))

set_option maxRecDepth 100000 in
set_option maxHeartbeats 4000000 in
/-- lot.Tells -/
theorem Tells_any (st : St) (B : Nat) (pA gA : Option Addr) (pc gc : Nat) (lA : Option Addr) (ln lc : Nat) (X : Nat → Int) (opened found : Int) (W : World) (hs : StRow W B st pA pc gA gc) (hl : IntRow W W.heap.size lA ln X) (hn : ln ≤ 1000) :
    Calls Tryz.prog 44 #[stV pA st.n pc gA st.m gc st.lots, .slice lA ln lc, .int .i64 opened, .int .i64 found] W (TellsPost st ln X opened found W) := by
  have HS := Lib.hid hs; have hB := hs.lt; have HL := Lib.hid hl; clear hs hl
  go_enter Tryz.func44, Tryz.ntmps44
  go_wp2_with fail
  refine (sampled_any st B pA gA pc gc lA ln lc X opened found _ (HS.out.later (by repeat (first | (with_reducible exact Below.refl _ _) | (with_reducible refine Below.drew ?_) | (with_reducible refine below_drewN ?_ _) | ((with_reducible refine below_alloc ?_ ?_ _); · (first | exact Nat.le_refl _ | omega | (simp; done) | (simp; omega) | (simp at *; omega))) | ((with_reducible refine below_set ?_ ?_ _); · (first | exact Nat.le_refl _ | omega | (simp; done) | (simp; omega) | (simp at *; omega))) | ((with_reducible refine below_via (by with_reducible assumption) ?_ ?_); · (first | exact Nat.le_refl _ | omega | (simp; done) | (simp; omega) | (simp at *; omega)))))) (HL.out.later (by repeat (first | (with_reducible exact Below.refl _ _) | (with_reducible refine Below.drew ?_) | (with_reducible refine below_drewN ?_ _) | ((with_reducible refine below_alloc ?_ ?_ _); · (first | exact Nat.le_refl _ | omega | (simp; done) | (simp; omega) | (simp at *; omega))) | ((with_reducible refine below_set ?_ ?_ _); · (first | exact Nat.le_refl _ | omega | (simp; done) | (simp; omega) | (simp at *; omega))) | ((with_reducible refine below_via (by with_reducible assumption) ?_ ?_); · (first | exact Nat.le_refl _ | omega | (simp; done) | (simp; omega) | (simp at *; omega)))))) hn).mono ?_
  rintro e w1 ⟨hb1, ⟨h0, hask, hop, hfo, db, rfl, hD, hdb⟩ | ⟨h0, rfl⟩⟩
  · have HA := Lib.hid (St.askErr_ok hask)
    have HD := Lib.hid hD
    have HE := Lib.hid h0
    have HI : Hid ((bagOf X ln).in_ st.all) := Lib.hid (by obtain ⟨_, h, rfl⟩ := HA.out; exact bagOf_in h)
    have HX := Lib.hid (fun k hk => St.in_all HI.out k hk (Nat.lt_of_lt_of_le hk HA.out.1.n4))
    have H6 := Lib.hid (St.in_six HA.out.1 HI.out)
    have hlo := St.lo_bd HA.out.1 HI.out
    have hhi := St.hi_bd HA.out.1 HI.out
    have hsz := St.size_bd HA.out.1 HI.out
    have hop' : 0 ≤ opened ∧ opened ≤ (bagOf X ln).size := by simpa [inB] using hop
    have hfo' : 0 ≤ found ∧ found ≤ opened := by simpa [inB] using hfo
    have hy := Lib.hid (show Below W.heap.size W w1 from (by repeat (first | (with_reducible exact Below.refl _ _) | (with_reducible refine Below.drew ?_) | (with_reducible refine below_drewN ?_ _) | ((with_reducible refine below_alloc ?_ ?_ _); · (first | exact Nat.le_refl _ | omega | (simp; done) | (simp; omega) | (simp at *; omega))) | ((with_reducible refine below_set ?_ ?_ _); · (first | exact Nat.le_refl _ | omega | (simp; done) | (simp; omega) | (simp at *; omega))) | ((with_reducible refine below_via (by with_reducible assumption) ?_ ?_); · (first | exact Nat.le_refl _ | omega | (simp; done) | (simp; omega) | (simp at *; omega))))))
    have hs1 := hb1.size
    simp only [World.size_alloc] at hdb hs1
    clear h0 hask hop hfo hD
    have hll : st.leftLo (bagOf X ln) found = max (st.lo (bagOf X ln)) found := rfl
    have hlh : st.leftHi (bagOf X ln) opened found = min (st.hi (bagOf X ln)) ((bagOf X ln).size - opened + found) := rfl
    have hl1 : 0 ≤ st.leftLo (bagOf X ln) found ∧ st.leftLo (bagOf X ln) found ≤ 24 := by omega
    have hl2 : 0 ≤ st.leftHi (bagOf X ln) opened found ∧ st.leftHi (bagOf X ln) opened found ≤ 24 := by omega
    clear hll hlh
    generalize hlle : st.leftLo (bagOf X ln) found = ll at hl1 ⊢
    generalize hlhe : st.leftHi (bagOf X ln) opened found = lh at hl2 ⊢
    have HLL := Lib.hid hlle
    have HLH := Lib.hid hlhe
    clear hlle hlhe
    generalize hxe' : bagOf X ln = x at HI HX H6 ⊢; have hxe := Lib.hid hxe'; clear hxe'
    rw [hxe.out] at hlo hhi hsz
    go_wp2_with fail
    have hw1 : Below w1.heap.size w1 ((w1.alloc (.cells #[.int .i64 x.a, .int .i64 x.b, .int .i64 x.c, .int .i64 x.d] 89)).alloc (.cells #[.int .i64 ll, .int .i64 lh] 75)) := (by repeat (first | (with_reducible exact Below.refl _ _) | (with_reducible refine Below.drew ?_) | (with_reducible refine below_drewN ?_ _) | ((with_reducible refine below_alloc ?_ ?_ _); · (first | exact Nat.le_refl _ | omega | (simp; done) | (simp; omega) | (simp at *; omega))) | ((with_reducible refine below_set ?_ ?_ _); · (first | exact Nat.le_refl _ | omega | (simp; done) | (simp; omega) | (simp at *; omega))) | ((with_reducible refine below_via (by with_reducible assumption) ?_ ?_); · (first | exact Nat.le_refl _ | omega | (simp; done) | (simp; omega) | (simp at *; omega)))))
    have hbag : BagC ((w1.alloc (.cells #[.int .i64 x.a, .int .i64 x.b, .int .i64 x.c, .int .i64 x.d] 89)).alloc (.cells #[.int .i64 ll, .int .i64 lh] 75)) w1.heap.size x := at4' (by (repeat' refine And.intro ?_ ?_) <;> (repeat (first | (with_reducible assumption) | (simp; done) | (with_reducible refine cell_drew_of ?_) | (with_reducible refine cell_drewN_of ?_) | (with_reducible refine cell_below_of (by with_reducible assumption) ?_) | ((with_reducible refine cell_new_of ?_ ?_) <;> (first | (with_reducible rfl) | (simp; done))) | ((with_reducible refine fro_new_of ?_) <;> (first | (with_reducible rfl) | (simp; done))) | (with_reducible refine cell_alloc_of _ ?_) | (with_reducible refine cell_set_of _ (by (first | exact Nat.le_refl _ | omega | (simp; done) | (simp; omega))) ?_) | (with_reducible refine fro_drew_of ?_) | (with_reducible refine fro_drewN_of ?_) | (with_reducible refine fro_below_of (by with_reducible assumption) (by (first | exact Nat.le_refl _ | omega | (simp; done) | (simp; omega))) ?_) | (with_reducible refine fro_alloc_of _ (by (first | exact Nat.le_refl _ | omega | (simp; done) | (simp; omega))) ?_) | (with_reducible refine fro_set_of _ ?_)))) (by (repeat' refine And.intro ?_ ?_) <;> (repeat (first | (with_reducible assumption) | (simp; done) | (with_reducible refine cell_drew_of ?_) | (with_reducible refine cell_drewN_of ?_) | (with_reducible refine cell_below_of (by with_reducible assumption) ?_) | ((with_reducible refine cell_new_of ?_ ?_) <;> (first | (with_reducible rfl) | (simp; done))) | ((with_reducible refine fro_new_of ?_) <;> (first | (with_reducible rfl) | (simp; done))) | (with_reducible refine cell_alloc_of _ ?_) | (with_reducible refine cell_set_of _ (by (first | exact Nat.le_refl _ | omega | (simp; done) | (simp; omega))) ?_) | (with_reducible refine fro_drew_of ?_) | (with_reducible refine fro_drewN_of ?_) | (with_reducible refine fro_below_of (by with_reducible assumption) (by (first | exact Nat.le_refl _ | omega | (simp; done) | (simp; omega))) ?_) | (with_reducible refine fro_alloc_of _ (by (first | exact Nat.le_refl _ | omega | (simp; done) | (simp; omega))) ?_) | (with_reducible refine fro_set_of _ ?_)))) (by (repeat' refine And.intro ?_ ?_) <;> (repeat (first | (with_reducible assumption) | (simp; done) | (with_reducible refine cell_drew_of ?_) | (with_reducible refine cell_drewN_of ?_) | (with_reducible refine cell_below_of (by with_reducible assumption) ?_) | ((with_reducible refine cell_new_of ?_ ?_) <;> (first | (with_reducible rfl) | (simp; done))) | ((with_reducible refine fro_new_of ?_) <;> (first | (with_reducible rfl) | (simp; done))) | (with_reducible refine cell_alloc_of _ ?_) | (with_reducible refine cell_set_of _ (by (first | exact Nat.le_refl _ | omega | (simp; done) | (simp; omega))) ?_) | (with_reducible refine fro_drew_of ?_) | (with_reducible refine fro_drewN_of ?_) | (with_reducible refine fro_below_of (by with_reducible assumption) (by (first | exact Nat.le_refl _ | omega | (simp; done) | (simp; omega))) ?_) | (with_reducible refine fro_alloc_of _ (by (first | exact Nat.le_refl _ | omega | (simp; done) | (simp; omega))) ?_) | (with_reducible refine fro_set_of _ ?_)))) (by (repeat' refine And.intro ?_ ?_) <;> (repeat (first | (with_reducible assumption) | (simp; done) | (with_reducible refine cell_drew_of ?_) | (with_reducible refine cell_drewN_of ?_) | (with_reducible refine cell_below_of (by with_reducible assumption) ?_) | ((with_reducible refine cell_new_of ?_ ?_) <;> (first | (with_reducible rfl) | (simp; done))) | ((with_reducible refine fro_new_of ?_) <;> (first | (with_reducible rfl) | (simp; done))) | (with_reducible refine cell_alloc_of _ ?_) | (with_reducible refine cell_set_of _ (by (first | exact Nat.le_refl _ | omega | (simp; done) | (simp; omega))) ?_) | (with_reducible refine fro_drew_of ?_) | (with_reducible refine fro_drewN_of ?_) | (with_reducible refine fro_below_of (by with_reducible assumption) (by (first | exact Nat.le_refl _ | omega | (simp; done) | (simp; omega))) ?_) | (with_reducible refine fro_alloc_of _ (by (first | exact Nat.le_refl _ | omega | (simp; done) | (simp; omega))) ?_) | (with_reducible refine fro_set_of _ ?_))))
    have hlef : N2At ((w1.alloc (.cells #[.int .i64 x.a, .int .i64 x.b, .int .i64 x.c, .int .i64 x.d] 89)).alloc (.cells #[.int .i64 ll, .int .i64 lh] 75)) (w1.heap.size + 1) ll lh := (by (repeat' refine And.intro ?_ ?_) <;> (repeat (first | (with_reducible assumption) | (simp; done) | (with_reducible refine cell_drew_of ?_) | (with_reducible refine cell_drewN_of ?_) | (with_reducible refine cell_below_of (by with_reducible assumption) ?_) | ((with_reducible refine cell_new_of ?_ ?_) <;> (first | (with_reducible rfl) | (simp; done))) | ((with_reducible refine fro_new_of ?_) <;> (first | (with_reducible rfl) | (simp; done))) | (with_reducible refine cell_alloc_of _ ?_) | (with_reducible refine cell_set_of _ (by (first | exact Nat.le_refl _ | omega | (simp; done) | (simp; omega))) ?_) | (with_reducible refine fro_drew_of ?_) | (with_reducible refine fro_drewN_of ?_) | (with_reducible refine fro_below_of (by with_reducible assumption) (by (first | exact Nat.le_refl _ | omega | (simp; done) | (simp; omega))) ?_) | (with_reducible refine fro_alloc_of _ (by (first | exact Nat.le_refl _ | omega | (simp; done) | (simp; omega))) ?_) | (with_reducible refine fro_set_of _ ?_))))
    refine (dspan_any st HA.out.1 x db _ ((HD.out.at (by omega)).later (by repeat (first | (with_reducible exact Below.refl _ _) | (with_reducible refine Below.drew ?_) | (with_reducible refine below_drewN ?_ _) | ((with_reducible refine below_alloc ?_ ?_ _); · (first | exact Nat.le_refl _ | omega | (simp; done) | (simp; omega) | (simp at *; omega))) | ((with_reducible refine below_set ?_ ?_ _); · (first | exact Nat.le_refl _ | omega | (simp; done) | (simp; omega) | (simp at *; omega))) | ((with_reducible refine below_via (by with_reducible assumption) ?_ ?_); · (first | exact Nat.le_refl _ | omega | (simp; done) | (simp; omega) | (simp at *; omega)))))) HX.out).mono ?_
    rintro e w2 ⟨rfl, hb2⟩
    have HD2 := Lib.hid (HD.out.later (by omega) (hw1.trans (hb2.mono (by simp; omega))))
    have hy2 := Lib.hid (hy.out.trans ((hw1.trans (hb2.mono (by simp; omega))).mono (by omega)))
    have hs2 := hb2.size
    simp only [World.size_alloc] at hs2
    have HBG2 := Lib.hid (hbag.same (hb2.block _ hbag.lt))
    have HLF2 := Lib.hid (hlef.later hb2)
    clear hbag hlef hw1 hb1 hb2
    go_wp2_with fail
    have hall : N2At (w2.alloc (.cells #[.int .i64 (st.lo x), .int .i64 (st.hi x)] 75)) w2.heap.size (st.lo x) (st.hi x) := (by (repeat' refine And.intro ?_ ?_) <;> (repeat (first | (with_reducible assumption) | (simp; done) | (with_reducible refine cell_drew_of ?_) | (with_reducible refine cell_drewN_of ?_) | (with_reducible refine cell_below_of (by with_reducible assumption) ?_) | ((with_reducible refine cell_new_of ?_ ?_) <;> (first | (with_reducible rfl) | (simp; done))) | ((with_reducible refine fro_new_of ?_) <;> (first | (with_reducible rfl) | (simp; done))) | (with_reducible refine cell_alloc_of _ ?_) | (with_reducible refine cell_set_of _ (by (first | exact Nat.le_refl _ | omega | (simp; done) | (simp; omega))) ?_) | (with_reducible refine fro_drew_of ?_) | (with_reducible refine fro_drewN_of ?_) | (with_reducible refine fro_below_of (by with_reducible assumption) (by (first | exact Nat.le_refl _ | omega | (simp; done) | (simp; omega))) ?_) | (with_reducible refine fro_alloc_of _ (by (first | exact Nat.le_refl _ | omega | (simp; done) | (simp; omega))) ?_) | (with_reducible refine fro_set_of _ ?_))))
    refine (ends_any _).mono ?_
    rintro e w3 ⟨rfl, hb3⟩
    have h23 : Below w2.heap.size w2 w3 := (by repeat (first | (with_reducible exact Below.refl _ _) | (with_reducible refine Below.drew ?_) | (with_reducible refine below_drewN ?_ _) | ((with_reducible refine below_alloc ?_ ?_ _); · (first | exact Nat.le_refl _ | omega | (simp; done) | (simp; omega) | (simp at *; omega))) | ((with_reducible refine below_set ?_ ?_ _); · (first | exact Nat.le_refl _ | omega | (simp; done) | (simp; omega) | (simp at *; omega))) | ((with_reducible refine below_via (by with_reducible assumption) ?_ ?_); · (first | exact Nat.le_refl _ | omega | (simp; done) | (simp; omega) | (simp at *; omega)))))
    have HD3 := Lib.hid (HD2.out.later (by omega) h23)
    have hy3 := Lib.hid (hy2.out.trans (h23.mono (by omega)))
    have HAL3 := Lib.hid (hall.later hb3)
    have HBG3 := Lib.hid (HBG2.out.same (h23.block _ HBG2.out.lt))
    have HLF3 := Lib.hid (HLF2.out.later h23)
    have hs3 := hb3.size
    simp only [World.size_alloc] at hs3
    have hdl := HD3.out.lt
    obtain ⟨pA', pc', gA', gc', hpr, hgr, q0, q1, q2, q3⟩ := HD3.out.rows
    have HP3 := Lib.hid hpr
    clear hall hb3 h23 q1 hpr hgr
    go_wp2_with fail
    refine wp_name (fun W4 => V1At W4 w3.heap.size (.func (.func 102) #[] #[]) ∧ V1At W4 (w3.heap.size + 1) (.func (.func 103) #[] #[]) ∧ Below w3.heap.size w3 W4 ∧ w3.heap.size + 1 + 1 ≤ W4.heap.size) ⟨(by (repeat' refine And.intro ?_ ?_) <;> (repeat (first | (with_reducible assumption) | (simp; done) | (with_reducible refine cell_drew_of ?_) | (with_reducible refine cell_drewN_of ?_) | (with_reducible refine cell_below_of (by with_reducible assumption) ?_) | ((with_reducible refine cell_new_of ?_ ?_) <;> (first | (with_reducible rfl) | (simp; done))) | ((with_reducible refine fro_new_of ?_) <;> (first | (with_reducible rfl) | (simp; done))) | (with_reducible refine cell_alloc_of _ ?_) | (with_reducible refine cell_set_of _ (by (first | exact Nat.le_refl _ | omega | (simp; done) | (simp; omega))) ?_) | (with_reducible refine fro_drew_of ?_) | (with_reducible refine fro_drewN_of ?_) | (with_reducible refine fro_below_of (by with_reducible assumption) (by (first | exact Nat.le_refl _ | omega | (simp; done) | (simp; omega))) ?_) | (with_reducible refine fro_alloc_of _ (by (first | exact Nat.le_refl _ | omega | (simp; done) | (simp; omega))) ?_) | (with_reducible refine fro_set_of _ ?_)))), (by (repeat' refine And.intro ?_ ?_) <;> (repeat (first | (with_reducible assumption) | (simp; done) | (with_reducible refine cell_drew_of ?_) | (with_reducible refine cell_drewN_of ?_) | (with_reducible refine cell_below_of (by with_reducible assumption) ?_) | ((with_reducible refine cell_new_of ?_ ?_) <;> (first | (with_reducible rfl) | (simp; done))) | ((with_reducible refine fro_new_of ?_) <;> (first | (with_reducible rfl) | (simp; done))) | (with_reducible refine cell_alloc_of _ ?_) | (with_reducible refine cell_set_of _ (by (first | exact Nat.le_refl _ | omega | (simp; done) | (simp; omega))) ?_) | (with_reducible refine fro_drew_of ?_) | (with_reducible refine fro_drewN_of ?_) | (with_reducible refine fro_below_of (by with_reducible assumption) (by (first | exact Nat.le_refl _ | omega | (simp; done) | (simp; omega))) ?_) | (with_reducible refine fro_alloc_of _ (by (first | exact Nat.le_refl _ | omega | (simp; done) | (simp; omega))) ?_) | (with_reducible refine fro_set_of _ ?_)))), (by repeat (first | (with_reducible exact Below.refl _ _) | (with_reducible refine Below.drew ?_) | (with_reducible refine below_drewN ?_ _) | ((with_reducible refine below_alloc ?_ ?_ _); · (first | exact Nat.le_refl _ | omega | (simp; done) | (simp; omega) | (simp at *; omega))) | ((with_reducible refine below_set ?_ ?_ _); · (first | exact Nat.le_refl _ | omega | (simp; done) | (simp; omega) | (simp at *; omega))) | ((with_reducible refine below_via (by with_reducible assumption) ?_ ?_); · (first | exact Nat.le_refl _ | omega | (simp; done) | (simp; omega) | (simp at *; omega))))), by simp⟩ ?_
    rintro W4 ⟨hel, heh, hb4, hs4⟩
    have HEL := Lib.hid hel
    have HEH := Lib.hid heh
    have HD4 := Lib.hid (HD3.out.later (by omega) hb4)
    have hy4 := Lib.hid (hy3.out.trans (hb4.mono (by omega)))
    have HAL4 := Lib.hid (HAL3.out.later hb4)
    have HBG4 := Lib.hid (HBG3.out.same (hb4.block _ HBG3.out.lt))
    have HLF4 := Lib.hid (HLF3.out.later hb4)
    have HP4 := Lib.hid ((HP3.out.below (hb4.mono (by omega))).mono (B' := W4.heap.size) (by omega))
    have n1 := HA.out.1.n1
    have n4 := HA.out.1.n4
    obtain ⟨i0, hi, hz0, hz1, hz2⟩ := info_parts infoSp
    clear hel heh q0 hb4
    go_loopw [17, 49] (fun v i wr => ∃ k : Nat, k ≤ st.n ∧ i = .int .i64 k ∧ Hid (wr.ownsRow W4.heap.size 75 2 v k (numCells (spCell (st.told x ll lh)) (k * 2))) ∧ Hid (Below W4.heap.size W4 wr)) (fun _ i _ => st.n - (intOf i).toNat)
    case atStart => exact ⟨0, Nat.zero_le _, rfl, Lib.hid (World.ownsRow_nil _ _ _ _), Lib.hid (Below.refl _ _)⟩
    case round =>
      obtain ⟨k, hk, rfl, hown, hbw⟩ := hrel
      by_cases hlt : k < st.n
      · obtain ⟨b, o, rfl, hb', c0, c1, c2, c3⟩ := (HP4.out.below hbw.out) k hlt
        have hk4 : (k : Int) < 4 := by omega
        have hk0 : (0 : Int) ≤ (k : Int) := by omega
        have hkn : (k : Int) < (st.n : Int) := by omega
        have hsr := hbw.out.size
        obtain ⟨wo, rfl⟩ : ∃ wo, wo = wr := ⟨_, rfl⟩
        have hal := (HAL4.out.later hbw.out).1
        have hel := (HEL.out.later hbw.out).1
        have heh := (HEH.out.later hbw.out).1
        have hbg := HBG4.out.same (hbw.out.block _ HBG4.out.lt) k (by omega)
        have HBX := Lib.hid (HBG4.out.same (hbw.out.block _ HBG4.out.lt))
        go_upto_region 10 with fail
        refine wp_name (fun W5 => (W5.cell? ⟨wo.heap.size, 0, none⟩ = some (.int .i64 (st.P k).s) ∧ W5.cell? ⟨wo.heap.size, 1, none⟩ = some (.int .i64 (st.P k).w) ∧ W5.cell? ⟨wo.heap.size, 2, none⟩ = some (.int .i64 (st.P k).o) ∧ W5.cell? ⟨wo.heap.size, 3, none⟩ = some (.int .i64 (st.P k).f)) ∧ Below wo.heap.size wo W5 ∧ wo.heap.size + 1 ≤ W5.heap.size) ⟨(by (repeat' refine And.intro ?_ ?_) <;> (repeat (first | (with_reducible assumption) | (simp; done) | (with_reducible refine cell_drew_of ?_) | (with_reducible refine cell_drewN_of ?_) | (with_reducible refine cell_below_of (by with_reducible assumption) ?_) | ((with_reducible refine cell_new_of ?_ ?_) <;> (first | (with_reducible rfl) | (simp; done))) | ((with_reducible refine fro_new_of ?_) <;> (first | (with_reducible rfl) | (simp; done))) | (with_reducible refine cell_alloc_of _ ?_) | (with_reducible refine cell_set_of _ (by (first | exact Nat.le_refl _ | omega | (simp; done) | (simp; omega))) ?_) | (with_reducible refine fro_drew_of ?_) | (with_reducible refine fro_drewN_of ?_) | (with_reducible refine fro_below_of (by with_reducible assumption) (by (first | exact Nat.le_refl _ | omega | (simp; done) | (simp; omega))) ?_) | (with_reducible refine fro_alloc_of _ (by (first | exact Nat.le_refl _ | omega | (simp; done) | (simp; omega))) ?_) | (with_reducible refine fro_set_of _ ?_)))), (by repeat (first | (with_reducible exact Below.refl _ _) | (with_reducible refine Below.drew ?_) | (with_reducible refine below_drewN ?_ _) | ((with_reducible refine below_alloc ?_ ?_ _); · (first | exact Nat.le_refl _ | omega | (simp; done) | (simp; omega) | (simp at *; omega))) | ((with_reducible refine below_set ?_ ?_ _); · (first | exact Nat.le_refl _ | omega | (simp; done) | (simp; omega) | (simp at *; omega))) | ((with_reducible refine below_via (by with_reducible assumption) ?_ ?_); · (first | exact Nat.le_refl _ | omega | (simp; done) | (simp; omega) | (simp at *; omega))))), by simp⟩ ?_
        rintro W5 ⟨⟨p0, p1, p2, p3⟩, hb5, hs5⟩
        have hbw5 := Lib.hid (hbw.out.trans (hb5.mono (by omega)))
        have x0 := cell_below_of hb5 hal.1
        have x1 := cell_below_of hb5 hal.2
        have x2 := cell_below_of hb5 hel
        have x3 := cell_below_of hb5 heh
        have x4 := cell_below_of hb5 hbg
        have hrg := Lib.hid (HA.out.1.pk k hlt)
        have hxk := Lib.hid (HX.out k hlt)
        have bl := (end_lo).2.1 _ _ hrg.out hxk.out
        have bh := (end_hi).2.1 _ _ hrg.out hxk.out
        have ew1 : IntKind.i64.wrap (st.lo x - (st.P k).loOf (x.at k)) = st.lo x - (st.P k).loOf (x.at k) := IntWalk.i64_in _ (by omega)
        have ew2 : IntKind.i64.wrap (st.hi x - (st.P k).hiOf (x.at k)) = st.hi x - (st.P k).hiOf (x.at k) := IntWalk.i64_in _ (by omega)
        have P5 := Lib.hid (And.intro p0 (And.intro p1 (And.intro p2 p3)))
        have hcl : ∀ args w, (callFunc 102 args).run Tryz.prog w = .ok (.enter 102 args) w := end_lo.2.2
        have hch : ∀ args w, (callFunc 103 args).run Tryz.prog w = .ok (.enter 103 args) w := end_hi.2.2
        have hown5 := Lib.hid (owns_later hown.out hb5)
        clear hal hel heh hbg c0 c1 c2 c3 hb5
        go_cut [20] (fun s20 wx => ∃ g : Nat, s20 = .pointer (some ⟨g, 0, none⟩) ∧ W5.heap.size ≤ g ∧ Hid (N2At wx g (st.lo x - (st.P k).loOf (x.at k)) (st.hi x - (st.P k).hiOf (x.at k))) ∧ Hid (Below W5.heap.size W5 wx))
        case first =>
          go_region_held3 (fun w' => (w'.cell? ⟨w2.heap.size, 0, none⟩ = some (.int .i64 (st.lo x)) ∧ w'.cell? ⟨w2.heap.size, 1, none⟩ = some (.int .i64 (st.hi x)) ∧ w'.cell? ⟨w3.heap.size, 0, none⟩ = some (.func (.func 102) #[] #[]) ∧ w'.cell? ⟨w3.heap.size + 1, 0, none⟩ = some (.func (.func 103) #[] #[])) ∧
              w'.cell? ⟨w1.heap.size, k, none⟩ = some (.int .i64 (x.at k)) ∧ w'.cell? ⟨wo.heap.size, 0, none⟩ = some (.int .i64 (st.P k).s) ∧ w'.cell? ⟨wo.heap.size, 1, none⟩ = some (.int .i64 (st.P k).w) ∧ w'.cell? ⟨wo.heap.size, 2, none⟩ = some (.int .i64 (st.P k).o) ∧ w'.cell? ⟨wo.heap.size, 3, none⟩ = some (.int .i64 (st.P k).f)) ((go_split_ands; (repeat' refine And.intro ?_ ?_) <;> (repeat (first | (with_reducible assumption) | (simp; done) | (with_reducible refine cell_drew_of ?_) | (with_reducible refine cell_drewN_of ?_) | (with_reducible refine cell_below_of (by with_reducible assumption) ?_) | ((with_reducible refine cell_new_of ?_ ?_) <;> (first | (with_reducible rfl) | (simp; done))) | ((with_reducible refine fro_new_of ?_) <;> (first | (with_reducible rfl) | (simp; done))) | (with_reducible refine cell_alloc_of _ ?_) | (with_reducible refine cell_set_of _ (by (first | exact Nat.le_refl _ | omega | (simp; done) | (simp; omega))) ?_) | (with_reducible refine fro_drew_of ?_) | (with_reducible refine fro_drewN_of ?_) | (with_reducible refine fro_below_of (by with_reducible assumption) (by (first | exact Nat.le_refl _ | omega | (simp; done) | (simp; omega))) ?_) | (with_reducible refine fro_alloc_of _ (by (first | exact Nat.le_refl _ | omega | (simp; done) | (simp; omega))) ?_) | (with_reducible refine fro_set_of _ ?_))))) (first | (go_at_call 102; refine (end_lo.1 (st.P k) (x.at k) _ hrg.out hxk.out).mono ?_; rintro e wa ⟨rfl, hba⟩; obtain ⟨hca, hfa⟩ := bcell hba; have hza := hba.size; (try simp only [World.size_drew, World.heap_drewN, World.size_alloc] at hza); clear hca hfa; (try (refine lay_in (A := wa.cell? ⟨W5.heap.size, 0, none⟩ = some (.int .i64 0) ∧ wa.cell? ⟨W5.heap.size, 1, none⟩ = some (.int .i64 0) ∧ wa.frozen? ⟨W5.heap.size, 0, none⟩ = false ∧ wa.frozen? ⟨W5.heap.size, 1, none⟩ = false) ?_ ?_; (· ((go_split_ands; (repeat' refine And.intro ?_ ?_) <;> (repeat (first | (with_reducible assumption) | (simp; done) | (with_reducible refine cell_drew_of ?_) | (with_reducible refine cell_drewN_of ?_) | (with_reducible refine cell_below_of (by with_reducible assumption) ?_) | ((with_reducible refine cell_new_of ?_ ?_) <;> (first | (with_reducible rfl) | (simp; done))) | ((with_reducible refine fro_new_of ?_) <;> (first | (with_reducible rfl) | (simp; done))) | (with_reducible refine cell_alloc_of _ ?_) | (with_reducible refine cell_set_of _ (by (first | exact Nat.le_refl _ | omega | (simp; done) | (simp; omega))) ?_) | (with_reducible refine fro_drew_of ?_) | (with_reducible refine fro_drewN_of ?_) | (with_reducible refine fro_below_of (by with_reducible assumption) (by (first | exact Nat.le_refl _ | omega | (simp; done) | (simp; omega))) ?_) | (with_reducible refine fro_alloc_of _ (by (first | exact Nat.le_refl _ | omega | (simp; done) | (simp; omega))) ?_) | (with_reducible refine fro_set_of _ ?_)))))); rintro ⟨oa0, oa1, oa2, oa3⟩))) | (go_at_call 103; refine (end_hi.1 (st.P k) (x.at k) _ hrg.out hxk.out).mono ?_; rintro e wb ⟨rfl, hbb⟩; obtain ⟨hcb, hfb⟩ := bcell hbb; have hzb := hbb.size; (try simp only [World.size_drew, World.heap_drewN, World.size_alloc] at hzb); clear hcb hfb; (try (refine lay_in (A := wb.cell? ⟨W5.heap.size, 0, none⟩ = some (.int .i64 0) ∧ wb.cell? ⟨W5.heap.size, 1, none⟩ = some (.int .i64 0) ∧ wb.frozen? ⟨W5.heap.size, 0, none⟩ = false ∧ wb.frozen? ⟨W5.heap.size, 1, none⟩ = false) ?_ ?_; (· ((go_split_ands; (repeat' refine And.intro ?_ ?_) <;> (repeat (first | (with_reducible assumption) | (simp; done) | (with_reducible refine cell_drew_of ?_) | (with_reducible refine cell_drewN_of ?_) | (with_reducible refine cell_below_of (by with_reducible assumption) ?_) | ((with_reducible refine cell_new_of ?_ ?_) <;> (first | (with_reducible rfl) | (simp; done))) | ((with_reducible refine fro_new_of ?_) <;> (first | (with_reducible rfl) | (simp; done))) | (with_reducible refine cell_alloc_of _ ?_) | (with_reducible refine cell_set_of _ (by (first | exact Nat.le_refl _ | omega | (simp; done) | (simp; omega))) ?_) | (with_reducible refine fro_drew_of ?_) | (with_reducible refine fro_drewN_of ?_) | (with_reducible refine fro_below_of (by with_reducible assumption) (by (first | exact Nat.le_refl _ | omega | (simp; done) | (simp; omega))) ?_) | (with_reducible refine fro_alloc_of _ (by (first | exact Nat.le_refl _ | omega | (simp; done) | (simp; omega))) ?_) | (with_reducible refine fro_set_of _ ?_)))))); rintro ⟨ob0, ob1, ob2, ob3⟩)); (try (refine lay_in (A := wb.cell? ⟨wa.heap.size, 0, none⟩ = some (.int .i64 0) ∧ wb.cell? ⟨wa.heap.size, 1, none⟩ = some (.int .i64 0) ∧ wb.frozen? ⟨wa.heap.size, 0, none⟩ = false ∧ wb.frozen? ⟨wa.heap.size, 1, none⟩ = false) ?_ ?_; (· ((go_split_ands; (repeat' refine And.intro ?_ ?_) <;> (repeat (first | (with_reducible assumption) | (simp; done) | (with_reducible refine cell_drew_of ?_) | (with_reducible refine cell_drewN_of ?_) | (with_reducible refine cell_below_of (by with_reducible assumption) ?_) | ((with_reducible refine cell_new_of ?_ ?_) <;> (first | (with_reducible rfl) | (simp; done))) | ((with_reducible refine fro_new_of ?_) <;> (first | (with_reducible rfl) | (simp; done))) | (with_reducible refine cell_alloc_of _ ?_) | (with_reducible refine cell_set_of _ (by (first | exact Nat.le_refl _ | omega | (simp; done) | (simp; omega))) ?_) | (with_reducible refine fro_drew_of ?_) | (with_reducible refine fro_drewN_of ?_) | (with_reducible refine fro_below_of (by with_reducible assumption) (by (first | exact Nat.le_refl _ | omega | (simp; done) | (simp; omega))) ?_) | (with_reducible refine fro_alloc_of _ (by (first | exact Nat.le_refl _ | omega | (simp; done) | (simp; omega))) ?_) | (with_reducible refine fro_set_of _ ?_)))))); rintro ⟨oc0, oc1, oc2, oc3⟩))))
          all_goals
            go_wp2_with fail
            go_meet
            first
              | exact ⟨wb.heap.size, rfl, by omega, Lib.hid (by (repeat' refine And.intro ?_ ?_) <;> (repeat (first | (with_reducible assumption) | (simp; done) | (with_reducible refine cell_drew_of ?_) | (with_reducible refine cell_drewN_of ?_) | (with_reducible refine cell_below_of (by with_reducible assumption) ?_) | ((with_reducible refine cell_new_of ?_ ?_) <;> (first | (with_reducible rfl) | (simp; done))) | ((with_reducible refine fro_new_of ?_) <;> (first | (with_reducible rfl) | (simp; done))) | (with_reducible refine cell_alloc_of _ ?_) | (with_reducible refine cell_set_of _ (by (first | exact Nat.le_refl _ | omega | (simp; done) | (simp; omega))) ?_) | (with_reducible refine fro_drew_of ?_) | (with_reducible refine fro_drewN_of ?_) | (with_reducible refine fro_below_of (by with_reducible assumption) (by (first | exact Nat.le_refl _ | omega | (simp; done) | (simp; omega))) ?_) | (with_reducible refine fro_alloc_of _ (by (first | exact Nat.le_refl _ | omega | (simp; done) | (simp; omega))) ?_) | (with_reducible refine fro_set_of _ ?_)))), Lib.hid (by repeat (first | (with_reducible exact Below.refl _ _) | (with_reducible refine Below.drew ?_) | (with_reducible refine below_drewN ?_ _) | ((with_reducible refine below_alloc ?_ ?_ _); · (first | exact Nat.le_refl _ | omega | (simp; done) | (simp; omega) | (simp at *; omega))) | ((with_reducible refine below_set ?_ ?_ _); · (first | exact Nat.le_refl _ | omega | (simp; done) | (simp; omega) | (simp at *; omega))) | ((with_reducible refine below_via (by with_reducible assumption) ?_ ?_); · (first | exact Nat.le_refl _ | omega | (simp; done) | (simp; omega) | (simp at *; omega)))))⟩
              | exact ⟨W5.heap.size, rfl, by omega, Lib.hid ⟨⟨by simp [go_sem, ob0, ob1], by simp [go_sem, ob0, ob1]⟩, fro_set_of _ (fro_set_of _ ob2), fro_set_of _ (fro_set_of _ ob3)⟩, Lib.hid (by repeat (first | (with_reducible exact Below.refl _ _) | (with_reducible refine Below.drew ?_) | (with_reducible refine below_drewN ?_ _) | ((with_reducible refine below_alloc ?_ ?_ _); · (first | exact Nat.le_refl _ | omega | (simp; done) | (simp; omega) | (simp at *; omega))) | ((with_reducible refine below_set ?_ ?_ _); · (first | exact Nat.le_refl _ | omega | (simp; done) | (simp; omega) | (simp at *; omega))) | ((with_reducible refine below_via (by with_reducible assumption) ?_ ?_); · (first | exact Nat.le_refl _ | omega | (simp; done) | (simp; omega) | (simp at *; omega)))))⟩
              | exact ⟨wa.heap.size, rfl, by omega, Lib.hid ⟨⟨by simp [go_sem, oc0, oc1], by simp [go_sem, oc0, oc1]⟩, fro_set_of _ (fro_set_of _ oc2), fro_set_of _ (fro_set_of _ oc3)⟩, Lib.hid (by repeat (first | (with_reducible exact Below.refl _ _) | (with_reducible refine Below.drew ?_) | (with_reducible refine below_drewN ?_ _) | ((with_reducible refine below_alloc ?_ ?_ _); · (first | exact Nat.le_refl _ | omega | (simp; done) | (simp; omega) | (simp at *; omega))) | ((with_reducible refine below_set ?_ ?_ _); · (first | exact Nat.le_refl _ | omega | (simp; done) | (simp; omega) | (simp at *; omega))) | ((with_reducible refine below_via (by with_reducible assumption) ?_ ?_); · (first | exact Nat.le_refl _ | omega | (simp; done) | (simp; omega) | (simp at *; omega)))))⟩
        case rest =>
          obtain ⟨g, rfl, hgs, hgg, hww⟩ := hcut
          clear p0 p1 p2 p3 x0 x1 x2 x3 x4
          have hsw := hww.out.size
          have hgl := World.block_lt_of_cell? wc _ hgg.out.1.1
          dsimp only at hgl
          obtain ⟨tb, htb⟩ : ∃ tb, tb = wc.heap.size := ⟨_, rfl⟩
          have HTB := Lib.hid htb
          go_upto_region 12 with fail
          refine wp_name (fun W7 => N2At W7 wc.heap.size 7 (-1) ∧ Below wc.heap.size wc W7 ∧ wc.heap.size + 1 ≤ W7.heap.size) ⟨(by (repeat' refine And.intro ?_ ?_) <;> (repeat (first | (with_reducible assumption) | (simp; done) | (with_reducible refine cell_drew_of ?_) | (with_reducible refine cell_drewN_of ?_) | (with_reducible refine cell_below_of (by with_reducible assumption) ?_) | ((with_reducible refine cell_new_of ?_ ?_) <;> (first | (with_reducible rfl) | (simp; done))) | ((with_reducible refine fro_new_of ?_) <;> (first | (with_reducible rfl) | (simp; done))) | (with_reducible refine cell_alloc_of _ ?_) | (with_reducible refine cell_set_of _ (by (first | exact Nat.le_refl _ | omega | (simp; done) | (simp; omega))) ?_) | (with_reducible refine fro_drew_of ?_) | (with_reducible refine fro_drewN_of ?_) | (with_reducible refine fro_below_of (by with_reducible assumption) (by (first | exact Nat.le_refl _ | omega | (simp; done) | (simp; omega))) ?_) | (with_reducible refine fro_alloc_of _ (by (first | exact Nat.le_refl _ | omega | (simp; done) | (simp; omega))) ?_) | (with_reducible refine fro_set_of _ ?_)))), (by repeat (first | (with_reducible exact Below.refl _ _) | (with_reducible refine Below.drew ?_) | (with_reducible refine below_drewN ?_ _) | ((with_reducible refine below_alloc ?_ ?_ _); · (first | exact Nat.le_refl _ | omega | (simp; done) | (simp; omega) | (simp at *; omega))) | ((with_reducible refine below_set ?_ ?_ _); · (first | exact Nat.le_refl _ | omega | (simp; done) | (simp; omega) | (simp at *; omega))) | ((with_reducible refine below_via (by with_reducible assumption) ?_ ?_); · (first | exact Nat.le_refl _ | omega | (simp; done) | (simp; omega) | (simp at *; omega))))), by simp⟩ ?_
          rintro W7 ⟨htold, hb7, hs7⟩
          rw [← htb]
          rw [← htb] at htold hb7 hs7 hgl hsw
          clear htb
          have h57 := hww.out.trans (hb7.mono hsw)
          have K7 : Hid ((W7.cell? ⟨wo.heap.size, 0, none⟩ = some (.int .i64 (st.P k).s) ∧ W7.cell? ⟨wo.heap.size, 1, none⟩ = some (.int .i64 (st.P k).w) ∧ W7.cell? ⟨wo.heap.size, 2, none⟩ = some (.int .i64 (st.P k).o) ∧ W7.cell? ⟨wo.heap.size, 3, none⟩ = some (.int .i64 (st.P k).f)) ∧ BagC W7 w1.heap.size x ∧ N2At W7 g (st.lo x - (st.P k).loOf (x.at k)) (st.hi x - (st.P k).hiOf (x.at k)) ∧ N2At W7 (w1.heap.size + 1) ll lh) := Lib.hid (by
            obtain ⟨p0, p1, p2, p3⟩ := P5.out
            refine ⟨⟨cell_below_of h57 p0, cell_below_of h57 p1, cell_below_of h57 p2, cell_below_of h57 p3⟩, ?_, hgg.out.same (hb7.block _ hgl), ((HLF4.out.later hbw5.out).later h57)⟩
            exact (HBG4.out.same (hbw5.out.block _ HBG4.out.lt)).same (h57.block _ (by have := HBG4.out.lt; omega)))
          have HT7 := Lib.hid htold
          have H57 := Lib.hid h57
          obtain ⟨⟨p0, p1, p2, p3⟩, _⟩ := K7.out
          have hrs := hrg.out
          obtain ⟨⟨ra1, ra2⟩, ⟨rb1, rb2⟩, ⟨rc1, rc2⟩, rd1, rd2⟩ := hrs
          have hsp1 := HA.out.1.sp k hlt
          have hhi2 : (st.P k).hi ≤ 6 := by unfold Pk.hi; omega
          have hwd : ((st.P k).wide : Int) = (st.P k).hi - (st.P k).f + 1 := by unfold Pk.wide; omega
          have HWD := Lib.hid hwd
          have hwd2 : (st.P k).wide ≤ 7 := by omega
          clear htold h57 hb7 hwd
          go_wp2_with fail
          refine (pspan_any _ _ _ _ _ hrg.out.1 hrg.out.2.2.1 hrg.out.2.2.2).mono ?_
          rintro e w8 ⟨rfl, hb8⟩
          have hbt : Below tb W7 w8 := hb8.mono (by omega)
          have hs8 := hb8.size
          have HT8 := Lib.hid (HT7.out.later hb8)
          have HB8 := Lib.hid hbt
          clear hb8 hbt p0 p1 p2 p3
          go_wp2_with fail
          go_loopw [22] (fun v wr2 => ∃ j : Nat, j ≤ (st.P k).wide ∧ v = .int .i64 ((st.P k).f + (j : Int)) ∧ Hid (N2At wr2 tb (toldN (st.P k) (x.at k) (st.lo x - (st.P k).loOf (x.at k)) (st.hi x - (st.P k).hiOf (x.at k)) ll lh j).1 (toldN (st.P k) (x.at k) (st.lo x - (st.P k).loOf (x.at k)) (st.hi x - (st.P k).hiOf (x.at k)) ll lh j).2) ∧ Hid (Below tb W7 wr2)) (fun v _ => ((st.P k).hi + 1 - intOf v).toNat)
          case atStart => exact ⟨0, Nat.zero_le _, by simp, HT8, HB8⟩
          case round =>
            obtain ⟨j, hj, rfl, hn2, hbw2⟩ := hrel
            have hk1 : BagC W7 w1.heap.size x := K7.out.2.1
            obtain ⟨⟨p0, p1, p2, p3⟩, _⟩ := K7.out
            have hwl : wo.heap.size < tb := by omega
            have p0 := cell_same (hbw2.out.block _ hwl) p0
            have p1 := cell_same (hbw2.out.block _ hwl) p1
            have p2 := cell_same (hbw2.out.block _ hwl) p2
            have p3 := cell_same (hbw2.out.block _ hwl) p3
            by_cases hjl : j < (st.P k).wide
            · have hle : (st.P k).f + (j : Int) ≤ min (st.P k).w ((st.P k).s - (st.P k).o + (st.P k).f) := by have := HWD.out; unfold Pk.hi at this; omega
              go_upto_region 15 with (go_at_call 65; refine (pspan_any _ _ _ _ _ hrg.out.1 hrg.out.2.2.1 hrg.out.2.2.2).mono ?_; rintro e w9 ⟨rfl, hb9⟩)
              have hbw9 : Below tb W7 w9 := hbw2.out.trans (hb9.mono (by have := hbw2.out.size; omega))
              have HN9 := Lib.hid (hn2.out.later hb9)
              have HB9 := Lib.hid hbw9
              obtain ⟨⟨p0, p1, p2, p3⟩, hk1, hk2, hk3⟩ := K7.out
              have y0 := cell_regrown (cell_same (hbw9.block _ hwl) p0)
              have y1 := cell_regrown (cell_same (hbw9.block _ (by omega)) (hk1 k (by omega)))
              have y2 := cell_regrown (cell_same (hbw9.block _ hgl) hk2.1.1)
              have y3 := cell_regrown (cell_same (hbw9.block _ hgl) hk2.1.2)
              have y4 := cell_regrown (cell_same (hbw9.block _ (by omega)) hk3.1.1)
              have y5 := cell_regrown (cell_same (hbw9.block _ (by omega)) hk3.1.2)
              have hxk2 := hxk.out
              have hjw := HWD.out
              have e1 : IntKind.i64.wrap ((st.P k).s - x.at k) = (st.P k).s - x.at k := IntWalk.i64_in _ (by omega)
              have e2 : IntKind.i64.wrap ((st.P k).f + (j : Int) - ((st.P k).s - x.at k)) = (st.P k).f + (j : Int) - ((st.P k).s - x.at k) := IntWalk.i64_in _ (by omega)
              have e3 : IntKind.i64.wrap (max 0 ((st.P k).f + (j : Int) - ((st.P k).s - x.at k)) + (st.lo x - (st.P k).loOf (x.at k))) = max 0 ((st.P k).f + (j : Int) - ((st.P k).s - x.at k)) + (st.lo x - (st.P k).loOf (x.at k)) := IntWalk.i64_in _ (by omega)
              have e4 : IntKind.i64.wrap (min ((st.P k).f + (j : Int)) (x.at k) + (st.hi x - (st.P k).hiOf (x.at k))) = min ((st.P k).f + (j : Int)) (x.at k) + (st.hi x - (st.P k).hiOf (x.at k)) := IntWalk.i64_in _ (by omega)
              have e5 : IntKind.i64.wrap ((st.P k).f + (j : Int) + 1) = (st.P k).f + (j : Int) + 1 := IntWalk.i64_in _ (by omega)
              have HST : Hid (toldN (st.P k) (x.at k) (st.lo x - (st.P k).loOf (x.at k)) (st.hi x - (st.P k).hiOf (x.at k)) ll lh (j + 1) = toldStep (st.P k) (x.at k) (st.lo x - (st.P k).loOf (x.at k)) (st.hi x - (st.P k).hiOf (x.at k)) ll lh ((st.P k).f + (j : Int)) (toldN (st.P k) (x.at k) (st.lo x - (st.P k).loOf (x.at k)) (st.hi x - (st.P k).hiOf (x.at k)) ll lh j)) := Lib.hid rfl
              have hje : (st.P k).f + (((j + 1 : Nat)) : Int) = (st.P k).f + (j : Int) + 1 := by omega
              have HJE := Lib.hid hje
              clear hje hbw9 hb9 p0 p1 p2 p3 hk1 hk2 hk3 hjw hle
              cases h1 : decide (max 0 ((st.P k).f + (j : Int) - ((st.P k).s - x.at k)) + (st.lo x - (st.P k).loOf (x.at k)) ≤ lh) with
              | false =>
                refine region_qbw (by kernel_rfl) (by kernel_rfl) ?_
                repeat (first | go_big_quiet_step (fail) | quiet_step (fail))
                refine wpQuiet_nil ?_; intro wq hbq
                have hno : Hid (toldN (st.P k) (x.at k) (st.lo x - (st.P k).loOf (x.at k)) (st.hi x - (st.P k).hiOf (x.at k)) ll lh (j + 1) = toldN (st.P k) (x.at k) (st.lo x - (st.P k).loOf (x.at k)) (st.hi x - (st.P k).hiOf (x.at k)) ll lh j) := Lib.hid (by
                  rw [HST.out]; unfold toldStep
                  rw [if_neg (fun h => by simp only [decide_eq_false_iff_not] at h1; exact h1 h.1)])
                have HN11 := Lib.hid (HN9.out.later hbq)
                have HB11 := Lib.hid (HB9.out.trans (hbq.mono (by have := HB9.out.size; omega)))
                clear y0 y1 y2 y3 y4 y5 hbq
                go_wp2_with fail
                go_roundw
                case rel => exact ⟨j + 1, by omega, congrArg (Value.int .i64) (by omega), Lib.hid (by rw [hno.out]; exact HN11.out), HB11⟩
                case measure => have := HWD.out; simp [intOf]; omega
              | true =>
                cases h2 : decide (ll ≤ min ((st.P k).f + (j : Int)) (x.at k) + (st.hi x - (st.P k).hiOf (x.at k))) with
                | false =>
                  refine region_qbw (by kernel_rfl) (by kernel_rfl) ?_
                  repeat (first | go_big_quiet_step (fail) | quiet_step (fail))
                  refine wpQuiet_nil ?_; intro wq hbq
                  have hno : Hid (toldN (st.P k) (x.at k) (st.lo x - (st.P k).loOf (x.at k)) (st.hi x - (st.P k).hiOf (x.at k)) ll lh (j + 1) = toldN (st.P k) (x.at k) (st.lo x - (st.P k).loOf (x.at k)) (st.hi x - (st.P k).hiOf (x.at k)) ll lh j) := Lib.hid (by
                    rw [HST.out]; unfold toldStep
                    rw [if_neg (fun h => by simp only [decide_eq_false_iff_not] at h2; exact h2 h.2)])
                  have HN11 := Lib.hid (HN9.out.later hbq)
                  have HB11 := Lib.hid (HB9.out.trans (hbq.mono (by have := HB9.out.size; omega)))
                  clear y0 y1 y2 y3 y4 y5 hbq
                  go_wp2_with fail
                  go_roundw
                  case rel => exact ⟨j + 1, by omega, congrArg (Value.int .i64) (by omega), Lib.hid (by rw [hno.out]; exact HN11.out), HB11⟩
                  case measure => have := HWD.out; simp [intOf]; omega
                | true =>
                  refine region_qbw (by kernel_rfl) (by kernel_rfl) ?_
                  repeat (first | go_big_quiet_step (fail) | quiet_step (fail))
                  refine wpQuiet_nil ?_; intro wq hbq
                  have hyes : Hid (toldN (st.P k) (x.at k) (st.lo x - (st.P k).loOf (x.at k)) (st.hi x - (st.P k).hiOf (x.at k)) ll lh (j + 1) = (min (toldN (st.P k) (x.at k) (st.lo x - (st.P k).loOf (x.at k)) (st.hi x - (st.P k).hiOf (x.at k)) ll lh j).1 ((st.P k).f + (j : Int)), (st.P k).f + (j : Int))) := Lib.hid (by
                    rw [HST.out]; unfold toldStep
                    rw [if_pos ⟨by simpa using h1, by simpa using h2⟩])
                  have hn11 := HN9.out.later hbq
                  obtain ⟨⟨t0, t1⟩, tf0, tf1⟩ := id hn11
                  have HN11 := Lib.hid hn11
                  have HB11 := Lib.hid (HB9.out.trans (hbq.mono (by have := HB9.out.size; omega)))
                  clear y0 y1 y2 y3 y4 y5 hbq hn11
                  go_wp2_with fail
                  go_roundw
                  case rel => exact ⟨j + 1, by omega, congrArg (Value.int .i64) (by omega), Lib.hid (by rw [hyes.out]; exact ⟨⟨by simp [go_sem, t0, t1], by simp [go_sem, t0, t1]⟩, fro_set_of _ (fro_set_of _ tf0), fro_set_of _ (fro_set_of _ tf1)⟩), Lib.hid ((HB11.out.setCell (by simp) _).setCell (by simp) _)⟩
                  case measure => have := HWD.out; simp [intOf]; omega
            · obtain rfl : j = (st.P k).wide := by omega
              have hle : ¬ (st.P k).f + (((st.P k).wide : Nat) : Int) ≤ min (st.P k).w ((st.P k).s - (st.P k).o + (st.P k).f) := by have := HWD.out; unfold Pk.hi at this; omega
              go_upto_region 17 with (go_at_call 65; refine (pspan_any _ _ _ _ _ hrg.out.1 hrg.out.2.2.1 hrg.out.2.2.2).mono ?_; rintro e w9 ⟨rfl, hb9⟩)
              have hbw9 : Below tb W7 w9 := hbw2.out.trans (hb9.mono (by have := hbw2.out.size; omega))
              have hn9 := hn2.out.later hb9
              have t0 := hn9.1.1
              have t1 := hn9.1.2
              have HB59 := Lib.hid (H57.out.trans (hbw9.mono (by omega)))
              have HOWN9 := Lib.hid (owns_later hown5.out (HB59.out))
              have hv1 := HOWN9.out.lt
              clear hb9 hbw9 hn9
              go_wp2_with (at_builtin; refine wpList_append_own _ rfl (.tmp 120) (.tmp 122) 108 rfl W4.heap.size 75 i0 (.agg #[.int .i64 0, .int .i64 0]) 2 16 sps_under hi hz0 hz1 hz2 rfl (by decide) u17 k (numCells (spCell (st.told x ll lh)) (k * 2)) rfl (HOWN9.out.alloc _) ⟨w9.heap.size, 0, none⟩ 1 1 [.int .i64 (st.told x ll lh k).1, .int .i64 (st.told x ll lh k).2] rfl rfl ?c1 ?c2 ?c3 ?c4 ?c5 ?_)
              case c1 => exact new_cells (cs := [.int .i64 (st.told x ll lh k).1, .int .i64 (st.told x ll lh k).2])
              case c2 => intro u hu; simp only [List.mem_cons, List.not_mem_nil, or_false] at hu; rcases hu with rfl | rfl <;> rfl
              case c3 => unfold maxLen; omega
              case c4 => omega
              case c5 => have q1 := HB59.out.size; have q2 := hbw5.out.size; simp; omega
              intro v' w10 hown' hgr _
              have hs10 := hgr.size
              simp only [World.size_alloc] at hs10
              have hb49 : Below W4.heap.size W4 w9 := hbw5.out.trans (HB59.out.mono hbw5.out.size)
              have hs49 := hb49.size
              have HB10 : Hid (Below W4.heap.size W4 w10) := Lib.hid ⟨hgr.os.trans hb49.os, hgr.tape.trans hb49.tape, hgr.output.trans hb49.output, by omega, fun i hi =>
                (hgr.block i (by simp; omega) (fun e => by have := (hv1 i e.symm).1; omega)).trans ((Below.heap_alloc _ _ _ (by omega)).trans (hb49.block i hi))⟩
              have HOWN10 := Lib.hid hown'
              clear hown' hgr hb49 t0 t1
              go_wp2_with fail
              go_roundw
              case rel => exact ⟨k + 1, by omega, by go_num, Lib.hid (by rw [spCells_succ]; exact HOWN10.out), HB10⟩
              case measure => simp [intOf]; omega
      · obtain rfl : k = st.n := by omega
        have hge : ¬ (st.n : Int) < (st.n : Int) := by omega
        obtain ⟨A, cc, rfl, hsp, hcc⟩ := SpRow.of_owns hown.out
        have HSP := Lib.hid hsp
        clear hsp
        go_wp2_with fail
        go_ret2
        exact ⟨hy4.out.trans (hbw.out.mono (by omega)), .inl ⟨HE.out, A, cc, rfl, by rw [HLL.out, HLH.out, hxe.out]; exact HSP.out, hcc⟩⟩
  · have H0 := Lib.hid h0
    have hnb : (st.sampErr ln X opened found != 0) = true := by simpa using h0
    have hy := Lib.hid (show Below W.heap.size W w1 from (by repeat (first | (with_reducible exact Below.refl _ _) | (with_reducible refine Below.drew ?_) | (with_reducible refine below_drewN ?_ _) | ((with_reducible refine below_alloc ?_ ?_ _); · (first | exact Nat.le_refl _ | omega | (simp; done) | (simp; omega) | (simp at *; omega))) | ((with_reducible refine below_set ?_ ?_ _); · (first | exact Nat.le_refl _ | omega | (simp; done) | (simp; omega) | (simp at *; omega))) | ((with_reducible refine below_via (by with_reducible assumption) ?_ ?_); · (first | exact Nat.le_refl _ | omega | (simp; done) | (simp; omega) | (simp at *; omega))))))
    have hs1 := hb1.size
    clear h0 hb1
    have hyo := hy.out
    go_wp2_with fail
    go_ret2
    exact ⟨(by repeat (first | (with_reducible exact Below.refl _ _) | (with_reducible refine Below.drew ?_) | (with_reducible refine below_drewN ?_ _) | ((with_reducible refine below_alloc ?_ ?_ _); · (first | exact Nat.le_refl _ | omega | (simp; done) | (simp; omega) | (simp at *; omega))) | ((with_reducible refine below_set ?_ ?_ _); · (first | exact Nat.le_refl _ | omega | (simp; done) | (simp; omega) | (simp at *; omega))) | ((with_reducible refine below_via (by with_reducible assumption) ?_ ?_); · (first | exact Nat.le_refl _ | omega | (simp; done) | (simp; omega) | (simp at *; omega))))), .inr ⟨H0.out, rfl⟩⟩
end Go.Proofs.YtmbkngfcbgbeiaaGreat
