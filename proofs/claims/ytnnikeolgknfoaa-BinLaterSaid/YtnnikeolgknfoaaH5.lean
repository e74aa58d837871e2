/- The law BinLater, walked. -/
import Derived.Test.YtnnikeolgknfoaaH3
import Derived.Test.YtnnikeolgknfoaaH4
import Derived.Test.YtnnikeolgknfoaaH2
import Derived.Deep.CutBlock
set_option linter.unusedSimpArgs false
set_option linter.unusedVariables false
namespace Go.Proofs.Ytnnikeolgknfoaa
open Go.RowKit Go.Shelf

theorem RwRow.grown {w w' : World} {B cb : Nat} {r : Rw} {bA dA vA : Option Addr} {bc dc vc : Nat} (h : RwRow w B r bA bc dA dc vA vc) (hg : w.grownBy w' (some cb)) (hne : ∀ a, bA = some a ∨ dA = some a ∨ vA = some a → a.block ≠ cb) : RwRow w' w'.heap.size r bA bc dA dc vA vc := by
  have hs := hg.size
  have hl := h.lt
  have hk : ∀ a : Addr, a.block < B → (bA = some a ∨ dA = some a ∨ vA = some a) → w'.heap[a.block]? = w.heap[a.block]? := fun a ha hx => hg.block _ (by omega) (fun e => by injection e with e; exact hne a hx e)
  refine ⟨Nat.le_refl _, fun k hk' => ?_, fun k hk' => ?_, fun k hk' => ?_, h.n1, h.d1, h.m1, h.bc, h.dc, h.vc⟩
  · obtain ⟨b, o, hA, hb, c0, c1, c2, c3, c4, c5, c6⟩ := h.b k hk'
    have hh := hk ⟨b, o, none⟩ hb (.inl hA)
    exact ⟨b, o, hA, by omega, cell_same hh c0, cell_same hh c1, cell_same hh c2, cell_same hh c3, cell_same hh c4, cell_same hh c5, cell_same hh c6⟩
  · obtain ⟨b, o, hA, hb, c0⟩ := h.d k hk'
    exact ⟨b, o, hA, by omega, cell_same (hk ⟨b, o, none⟩ hb (.inr (.inl hA))) c0⟩
  · obtain ⟨b, o, hA, hb, c0, c1, c2, c3⟩ := h.v k hk'
    have hh := hk ⟨b, o, none⟩ hb (.inr (.inr hA))
    exact ⟨b, o, hA, by omega, cell_same hh c0, cell_same hh c1, cell_same hh c2, cell_same hh c3⟩
theorem numCells_congr {f g : Nat → Int} {n : Nat} (h : ∀ j, j < n → f j = g j) : numCells f n = numCells g n := by
  unfold numCells
  refine List.map_congr_left (fun j hj => ?_)
  rw [h j (List.mem_range.1 hj)]
theorem days_zero (r : Rw) (k : Int) : numCells (r.days k 0).D (r.d + 0) = numCells r.D r.d := numCells_congr (fun j hj => if_pos hj)
theorem sps_of2 {n : Nat} (hn : 1 ≤ n) {X : Nat → Sp} {er : Int} {W W' : World} {e : Ending} (h : SpsPost n X er W e W') (he : er = 0) : ∃ A c, e = .returned (.tuple #[.slice A n c, .int .i64 0]) ∧ SpRow W' W'.heap.size A n X ∧ n ≤ c ∧ Below W.heap.size W W' ∧ ∀ a, A = some a → W.heap.size ≤ a.block := by
  rcases h with ⟨_, v, rfl, ho, hb⟩ | ⟨h, _⟩
  · obtain ⟨A, c, rfl, hr, hc⟩ := OwnSp.of ho
    refine ⟨A, c, rfl, hr.row, hc, hb, fun a ha => ?_⟩
    obtain ⟨b, hA, hl, _⟩ := hr 0 (by omega)
    rw [ha] at hA
    injection hA with hA
    rw [hA]
    exact hl
  · exact absurd he h

set_option maxRecDepth 100000 in
set_option maxHeartbeats 8000000 in
theorem later_law (nA : Option Addr) (nn nc : Nat) (i1 i2 i3 : Int) (W : World) (hby : ByIn W W.heap.size nA nn) (hln : nn ≤ 9223372036854775807) :
    Calls Try.prog 5 #[.slice nA nn nc, .int .i64 i1, .int .i64 i2, .int .i64 i3] W fun e W' => e = .returned (.bool true) ∧ Below W.heap.size W W' := by
  have HBY := Lib.hid hby
  clear hby
  go_enter Try.func5, Try.ntmps5
  go_wp2_with fail
  refine (fill_any W.heap.size nA nn nc _ (Nat.le_refl _) HBY.out).mono ?_
  rintro e w1 ⟨cb, rfl, hcb, hb1, hch⟩
  have HB1 := Lib.hid hb1
  have HC1 := Lib.hid hch
  have hs1 := hb1.size
  have hcl : cb < w1.heap.size := by
    obtain ⟨u, z, _, h⟩ := hch
    exact h.lt
  clear hb1 hch
  go_wp2_with fail
  refine (maderow_any 4 (by omega) W.heap.size cb nA nn nc hln _ hs1 hcl HC1.out).mono ?_
  rintro e w2 ⟨r, bA, dA, bc, dc, rfl, hm0, hrn, hrd, hgb, hkd, hob, hod, hbc, hdc, hg2, hc2⟩
  have hok := row_ok hm0 (by omega) hrd hgb hkd
  have HOK := Lib.hid hok
  have HB2 := Lib.hid (HB1.out.trans (gb_below hg2 hs1 hcb))
  have HC2 := Lib.hid hc2
  have hs2 := HB2.out.size
  obtain ⟨r0, rfl⟩ : ∃ r0 : Rw, r = r0.bare := ⟨r, (Rw.bare_self hm0).symm⟩
  have HR2 : Hid (RwRow w2 w2.heap.size r0.bare bA bc dA dc none 0) := Lib.hid ⟨Nat.le_refl _, hob.row, hod.row, fun q hq => absurd hq (by show ¬ q < 0; omega), by have := hok.n6; omega, by have := hok.d7; omega, by show 0 ≤ 1000; omega, hbc, hdc, Nat.le_refl _⟩
  have hne : ∀ a, bA = some a ∨ dA = some a ∨ (none : Option Addr) = some a → a.block ≠ cb := by
    rintro a (h | h | h)
    · obtain ⟨b', hA, hl, _⟩ := hob 0 (by have := hok.n1; exact this)
      rw [h] at hA
      injection hA with hA
      rw [hA]
      show b' ≠ cb
      omega
    · obtain ⟨b', hA, hl, _⟩ := hod 0 (by have := hrd.1; exact this)
      rw [h] at hA
      injection hA with hA
      rw [hA]
      show b' ≠ cb
      omega
    · exact absurd h (by simp)
  have HNE := Lib.hid hne
  have hcw : cb < w2.heap.size := by have := hg2.size; omega
  clear hob hod hc2 hg2 hok HB1 HC1 HBY hne
  go_upto_region 3 with fail
  refine wp_world (fun w' => RwAt w' w2.heap.size r0.bare bA bc dA dc none 0 ∧ Below w2.heap.size w2 w' ∧ w2.heap.size + 1 ≤ w'.heap.size) ⟨⟨(by (repeat' refine And.intro ?_ ?_) <;> (repeat (first | (with_reducible assumption) | (simp; done) | (with_reducible refine cell_drew_of ?_) | (with_reducible refine cell_drewN_of ?_) | (with_reducible refine cell_below_of (by with_reducible assumption) ?_) | ((with_reducible refine cell_new_of ?_ ?_) <;> (first | (with_reducible rfl) | (simp; done))) | ((with_reducible refine fro_new_of ?_) <;> (first | (with_reducible rfl) | (simp; done))) | (with_reducible refine cell_alloc_of _ ?_) | (with_reducible refine cell_set_of _ (by (first | exact Nat.le_refl _ | omega | (simp; done) | (simp; omega))) ?_) | (with_reducible refine fro_drew_of ?_) | (with_reducible refine fro_drewN_of ?_) | (with_reducible refine fro_below_of (by with_reducible assumption) (by (first | exact Nat.le_refl _ | omega | (simp; done) | (simp; omega))) ?_) | (with_reducible refine fro_alloc_of _ (by (first | exact Nat.le_refl _ | omega | (simp; done) | (simp; omega))) ?_) | (with_reducible refine fro_set_of _ ?_)))), (by (repeat' refine And.intro ?_ ?_) <;> (repeat (first | (with_reducible assumption) | (simp; done) | (with_reducible refine cell_drew_of ?_) | (with_reducible refine cell_drewN_of ?_) | (with_reducible refine cell_below_of (by with_reducible assumption) ?_) | ((with_reducible refine cell_new_of ?_ ?_) <;> (first | (with_reducible rfl) | (simp; done))) | ((with_reducible refine fro_new_of ?_) <;> (first | (with_reducible rfl) | (simp; done))) | (with_reducible refine cell_alloc_of _ ?_) | (with_reducible refine cell_set_of _ (by (first | exact Nat.le_refl _ | omega | (simp; done) | (simp; omega))) ?_) | (with_reducible refine fro_drew_of ?_) | (with_reducible refine fro_drewN_of ?_) | (with_reducible refine fro_below_of (by with_reducible assumption) (by (first | exact Nat.le_refl _ | omega | (simp; done) | (simp; omega))) ?_) | (with_reducible refine fro_alloc_of _ (by (first | exact Nat.le_refl _ | omega | (simp; done) | (simp; omega))) ?_) | (with_reducible refine fro_set_of _ ?_)))), by simp [go_sem, Rw.bare]⟩, (by repeat (first | (with_reducible exact Below.refl _ _) | (with_reducible assumption) | (with_reducible refine Below.drew ?_) | ((with_reducible refine below_alloc ?_ ?_ _); (· (first | exact Nat.le_refl _ | omega | (dsimp only; omega) | (simp only [World.size_alloc, World.size_drew, World.heap_drewN]; omega) | (simp; omega)))) | ((with_reducible refine below_set ?_ ?_ _); (· (first | exact Nat.le_refl _ | omega | (dsimp only; omega) | (simp only [World.size_alloc, World.size_drew, World.heap_drewN]; omega) | (simp; omega)))) | ((with_reducible refine below_via (by with_reducible assumption) ?_ ?_); (· (first | exact Nat.le_refl _ | omega | (dsimp only; omega) | (simp only [World.size_alloc, World.size_drew, World.heap_drewN]; omega) | (simp; omega)))))), by simp⟩ ?_
  rintro w3 ⟨hx3, hb3, hs3⟩
  have HX3 := Lib.hid hx3
  have HR3 := Lib.hid (HR2.out.on hb3)
  have HC3 := Lib.hid (HC2.out.later hb3)
  have HB3 := Lib.hid (HB2.out.trans (hb3.mono hs2))
  have hs3' := HB3.out.size
  have hn6 := HOK.out.n6
  have hn1 := HOK.out.n1
  obtain ⟨c0, c1, c2⟩ := hx3
  obtain ⟨rx, hrx⟩ : ∃ rx, rx = w2.heap.size := ⟨_, rfl⟩
  rw [← hrx] at HX3 c0 c1 c2 hs3 hcw
  rw [← hrx]
  clear hb3 HR2 HB2 HC2 hs2 hrx
  go_wp2_with fail
  refine (wrap_any i1 _ (by omega) _).mono ?_
  rintro e wz ⟨b, rfl, hb0, hb1, rfl⟩
  obtain ⟨b, rfl⟩ := Int.eq_ofNat_of_zero_le hb0
  have hbn : b < r0.bare.n := by
    show b < r0.n
    have h1 : 1 ≤ r0.n := hn1
    have h2 : (b : Int) < (r0.n : Int) ∨ (b : Int) = 0 := hb1
    omega
  clear hb0 hb1
  go_wp2_with fail
  refine (wrap_any i2 3 (by omega) _).mono ?_
  rintro e wz ⟨k, rfl, hk0, hk1, rfl⟩
  obtain ⟨k, rfl⟩ := Int.eq_ofNat_of_zero_le hk0
  have hk3 : k < 3 := by omega
  clear hk0 hk1
  go_wp2_with fail
  refine (wrap_any i3 140 (by omega) _).mono ?_
  rintro e wz ⟨mo, rfl, hm0', hm1, rfl⟩
  have hmo : 0 ≤ mo ∧ mo ≤ 139 := by omega
  clear hm0' hm1
  go_wp2_with fail
  refine (Until_any r0.bare (b : Int) (k : Int) mo bA dA none bc dc 0 _ HR3.out).mono ?_
  rintro e w4 ⟨rfl, hb4⟩
  rw [Rw.until_zero HOK.out rfl hbn hk3 (by omega), Rw.until_is HOK.out rfl hbn hk3 (by omega)]
  have HX4 := Lib.hid (HX3.out.later hb4)
  have HR4 := Lib.hid (HR3.out.on hb4)
  have HC4 := Lib.hid (HC3.out.later hb4)
  have HB4 := Lib.hid (HB3.out.trans (hb4.mono hs3'))
  have hs4 := HB4.out.size
  have hz4 := hb4.size
  have hl4 : rx < w4.heap.size := by omega
  obtain ⟨y1, hy1⟩ : ∃ y, y = untilR (r0.bare.sp b).b ((r0.bare.B b).hi k) mo := ⟨_, rfl⟩
  obtain ⟨y2, hy2⟩ : ∃ y, y = untilR (r0.bare.sp b).a ((r0.bare.B b).lo k) mo := ⟨_, rfl⟩
  rw [← hy1, ← hy2]
  have HU := Lib.hid (And.intro hy1 hy2)
  clear hb4 HX3 HR3 HC3 HB3 c0 c1 c2 hs3' hy1 hy2
  go_upto_region 5 with fail
  refine wp_world (fun w' => N2c w' w4.heap.size y1 y2 ∧ Below w4.heap.size w4 w' ∧ w4.heap.size + 1 ≤ w'.heap.size) ⟨⟨(by (repeat' refine And.intro ?_ ?_) <;> (repeat (first | (with_reducible assumption) | (simp; done) | (with_reducible refine cell_drew_of ?_) | (with_reducible refine cell_drewN_of ?_) | (with_reducible refine cell_below_of (by with_reducible assumption) ?_) | ((with_reducible refine cell_new_of ?_ ?_) <;> (first | (with_reducible rfl) | (simp; done))) | ((with_reducible refine fro_new_of ?_) <;> (first | (with_reducible rfl) | (simp; done))) | (with_reducible refine cell_alloc_of _ ?_) | (with_reducible refine cell_set_of _ (by (first | exact Nat.le_refl _ | omega | (simp; done) | (simp; omega))) ?_) | (with_reducible refine fro_drew_of ?_) | (with_reducible refine fro_drewN_of ?_) | (with_reducible refine fro_below_of (by with_reducible assumption) (by (first | exact Nat.le_refl _ | omega | (simp; done) | (simp; omega))) ?_) | (with_reducible refine fro_alloc_of _ (by (first | exact Nat.le_refl _ | omega | (simp; done) | (simp; omega))) ?_) | (with_reducible refine fro_set_of _ ?_)))), (by (repeat' refine And.intro ?_ ?_) <;> (repeat (first | (with_reducible assumption) | (simp; done) | (with_reducible refine cell_drew_of ?_) | (with_reducible refine cell_drewN_of ?_) | (with_reducible refine cell_below_of (by with_reducible assumption) ?_) | ((with_reducible refine cell_new_of ?_ ?_) <;> (first | (with_reducible rfl) | (simp; done))) | ((with_reducible refine fro_new_of ?_) <;> (first | (with_reducible rfl) | (simp; done))) | (with_reducible refine cell_alloc_of _ ?_) | (with_reducible refine cell_set_of _ (by (first | exact Nat.le_refl _ | omega | (simp; done) | (simp; omega))) ?_) | (with_reducible refine fro_drew_of ?_) | (with_reducible refine fro_drewN_of ?_) | (with_reducible refine fro_below_of (by with_reducible assumption) (by (first | exact Nat.le_refl _ | omega | (simp; done) | (simp; omega))) ?_) | (with_reducible refine fro_alloc_of _ (by (first | exact Nat.le_refl _ | omega | (simp; done) | (simp; omega))) ?_) | (with_reducible refine fro_set_of _ ?_))))⟩, (by repeat (first | (with_reducible exact Below.refl _ _) | (with_reducible assumption) | (with_reducible refine Below.drew ?_) | ((with_reducible refine below_alloc ?_ ?_ _); (· (first | exact Nat.le_refl _ | omega | (dsimp only; omega) | (simp only [World.size_alloc, World.size_drew, World.heap_drewN]; omega) | (simp; omega)))) | ((with_reducible refine below_set ?_ ?_ _); (· (first | exact Nat.le_refl _ | omega | (dsimp only; omega) | (simp only [World.size_alloc, World.size_drew, World.heap_drewN]; omega) | (simp; omega)))) | ((with_reducible refine below_via (by with_reducible assumption) ?_ ?_); (· (first | exact Nat.le_refl _ | omega | (dsimp only; omega) | (simp only [World.size_alloc, World.size_drew, World.heap_drewN]; omega) | (simp; omega)))))), by simp⟩ ?_
  rintro w5 ⟨hu5, hb5, hs5⟩
  have hl5 : rx < w5.heap.size ∧ w4.heap.size < w5.heap.size := by omega
  have HU5 := Lib.hid hu5
  have HX5 := Lib.hid (HX4.out.later hb5)
  have HR5 := Lib.hid (HR4.out.on hb5)
  have HC5 := Lib.hid (HC4.out.later hb5)
  have HB5 := Lib.hid (HB4.out.trans (hb5.mono hs4))
  have hs5' := HB5.out.size
  obtain ⟨ux, hux⟩ : ∃ ux, ux = w4.heap.size := ⟨_, rfl⟩
  rw [← hux] at HU5 hs5 hl5
  rw [← hux]
  obtain ⟨c0, c1, c2⟩ := HX5.out
  obtain ⟨bb, bo, hbA, hbl, d0, d1, d2, d3, d4, d5, d6⟩ := HR5.out.b b hbn
  have HBB := Lib.hid hbA
  subst hbA
  clear hux hu5 hb5 HX4 HR4 HC4 HB4
  have g0 : w5.cell? ⟨bb, bo + b * 7 + k * 2, none⟩ = some (.int .i64 ((r0.bare.B b).lo k)) := by
    rcases (show k = 0 ∨ k = 1 ∨ k = 2 by omega) with rfl | rfl | rfl
    · exact d0
    · exact d2
    · exact d4
  have g1 : w5.cell? ⟨bb, bo + b * 7 + k * 2 + 1, none⟩ = some (.int .i64 ((r0.bare.B b).hi k)) := by
    rcases (show k = 0 ∨ k = 1 ∨ k = 2 by omega) with rfl | rfl | rfl
    · exact d1
    · exact d3
    · exact d5
  obtain ⟨z1, hz1⟩ : ∃ y, y = (r0.bare.B b).lo k := ⟨_, rfl⟩
  obtain ⟨z2, hz2⟩ : ∃ y, y = (r0.bare.B b).hi k := ⟨_, rfl⟩
  rw [← hz1] at g0
  rw [← hz2] at g1
  have HG := Lib.hid (And.intro hz1 hz2)
  have hbi : (b : Int) < ((r0.bare.n : Nat) : Int) := by omega
  have hb0 : (0 : Int) ≤ (b : Int) := by omega
  have hki : (k : Int) < 3 := by omega
  have hk0 : (0 : Int) ≤ (k : Int) := by omega
  clear d0 d1 d2 d3 d4 d5 d6 hz1 hz2
  go_upto_region 8 with fail
  refine wp_world (fun w' => N2c w' w5.heap.size z1 z2 ∧ Below w5.heap.size w5 w' ∧ w5.heap.size + 1 ≤ w'.heap.size) ⟨⟨(by (repeat' refine And.intro ?_ ?_) <;> (repeat (first | (with_reducible assumption) | (simp; done) | (with_reducible refine cell_drew_of ?_) | (with_reducible refine cell_drewN_of ?_) | (with_reducible refine cell_below_of (by with_reducible assumption) ?_) | ((with_reducible refine cell_new_of ?_ ?_) <;> (first | (with_reducible rfl) | (simp; done))) | ((with_reducible refine fro_new_of ?_) <;> (first | (with_reducible rfl) | (simp; done))) | (with_reducible refine cell_alloc_of _ ?_) | (with_reducible refine cell_set_of _ (by (first | exact Nat.le_refl _ | omega | (simp; done) | (simp; omega))) ?_) | (with_reducible refine fro_drew_of ?_) | (with_reducible refine fro_drewN_of ?_) | (with_reducible refine fro_below_of (by with_reducible assumption) (by (first | exact Nat.le_refl _ | omega | (simp; done) | (simp; omega))) ?_) | (with_reducible refine fro_alloc_of _ (by (first | exact Nat.le_refl _ | omega | (simp; done) | (simp; omega))) ?_) | (with_reducible refine fro_set_of _ ?_)))), (by (repeat' refine And.intro ?_ ?_) <;> (repeat (first | (with_reducible assumption) | (simp; done) | (with_reducible refine cell_drew_of ?_) | (with_reducible refine cell_drewN_of ?_) | (with_reducible refine cell_below_of (by with_reducible assumption) ?_) | ((with_reducible refine cell_new_of ?_ ?_) <;> (first | (with_reducible rfl) | (simp; done))) | ((with_reducible refine fro_new_of ?_) <;> (first | (with_reducible rfl) | (simp; done))) | (with_reducible refine cell_alloc_of _ ?_) | (with_reducible refine cell_set_of _ (by (first | exact Nat.le_refl _ | omega | (simp; done) | (simp; omega))) ?_) | (with_reducible refine fro_drew_of ?_) | (with_reducible refine fro_drewN_of ?_) | (with_reducible refine fro_below_of (by with_reducible assumption) (by (first | exact Nat.le_refl _ | omega | (simp; done) | (simp; omega))) ?_) | (with_reducible refine fro_alloc_of _ (by (first | exact Nat.le_refl _ | omega | (simp; done) | (simp; omega))) ?_) | (with_reducible refine fro_set_of _ ?_))))⟩, (by repeat (first | (with_reducible exact Below.refl _ _) | (with_reducible assumption) | (with_reducible refine Below.drew ?_) | ((with_reducible refine below_alloc ?_ ?_ _); (· (first | exact Nat.le_refl _ | omega | (dsimp only; omega) | (simp only [World.size_alloc, World.size_drew, World.heap_drewN]; omega) | (simp; omega)))) | ((with_reducible refine below_set ?_ ?_ _); (· (first | exact Nat.le_refl _ | omega | (dsimp only; omega) | (simp only [World.size_alloc, World.size_drew, World.heap_drewN]; omega) | (simp; omega)))) | ((with_reducible refine below_via (by with_reducible assumption) ?_ ?_); (· (first | exact Nat.le_refl _ | omega | (dsimp only; omega) | (simp only [World.size_alloc, World.size_drew, World.heap_drewN]; omega) | (simp; omega)))))), by simp⟩ ?_
  rintro w6 ⟨hg6, hb6, hs6⟩
  have hl6 : rx < w6.heap.size ∧ ux < w6.heap.size ∧ w5.heap.size < w6.heap.size := by omega
  have HG6 := Lib.hid hg6
  have HU6 := Lib.hid (HU5.out.later hb6)
  have HX6 := Lib.hid (HX5.out.later hb6)
  have HR6 := Lib.hid (HR5.out.on hb6)
  have HC6 := Lib.hid (HC5.out.later hb6)
  have HB6 := Lib.hid (HB5.out.trans (hb6.mono hs5'))
  have hs6' := HB6.out.size
  obtain ⟨gx, hgx⟩ : ∃ gx, gx = w5.heap.size := ⟨_, rfl⟩
  rw [← hgx] at HG6 hs6 hl6
  rw [← hgx]
  clear hgx c0 c1 c2 g0 g1 hg6 hb6 HU5 HX5 HR5 HC5 HB5
  obtain ⟨c0, c1, c2⟩ := HX6.out
  go_wp2_with fail
  refine (own2_any r0.bare hn1 hrd.1 (some ⟨bb, bo, none⟩) dA none bc dc 0 _ HR6.out).mono ?_
  rintro e w7 ⟨bA2, dA2, vA2, bc2, dc2, vc2, m, rfl, hmm, hlb, hld, hob, hod, hov, ⟨hbc2, hdc2, hvc2⟩, hb7, m0, hm01, hm02, hlb0, hodr⟩
  have HG7 := Lib.hid (HG6.out.later hb7)
  have HU7 := Lib.hid (HU6.out.later hb7)
  have HX7 := Lib.hid (HX6.out.later hb7)
  have HR7 := Lib.hid (HR6.out.on hb7)
  have HRm7 := Lib.hid (HR6.out.later hb7)
  have HC7 := Lib.hid (HC6.out.later hb7)
  have HB7 := Lib.hid (HB6.out.trans (hb7.mono hs6'))
  have hs7' := HB7.out.size
  have HOB := Lib.hid hob
  have HOD := Lib.hid hod
  have HODR := Lib.hid hodr
  have HLB := Lib.hid hlb0
  have hz7 := hb7.size
  clear c0 c1 c2 hlb hld hob hod hodr hlb0 hov hb7 HG6 HU6 HX6 HR6 HC6 HB6
  go_upto_region 9 with fail
  refine wp_world (fun w' => V3 w' w7.heap.size (.slice bA2 r0.bare.n bc2) (.slice dA2 r0.bare.d dc2) (.slice vA2 0 vc2) ∧ Below w7.heap.size w7 w' ∧ w7.heap.size + 1 ≤ w'.heap.size) ⟨⟨(by (repeat' refine And.intro ?_ ?_) <;> (repeat (first | (with_reducible assumption) | (simp; done) | (with_reducible refine cell_drew_of ?_) | (with_reducible refine cell_drewN_of ?_) | (with_reducible refine cell_below_of (by with_reducible assumption) ?_) | ((with_reducible refine cell_new_of ?_ ?_) <;> (first | (with_reducible rfl) | (simp; done))) | ((with_reducible refine fro_new_of ?_) <;> (first | (with_reducible rfl) | (simp; done))) | (with_reducible refine cell_alloc_of _ ?_) | (with_reducible refine cell_set_of _ (by (first | exact Nat.le_refl _ | omega | (simp; done) | (simp; omega))) ?_) | (with_reducible refine fro_drew_of ?_) | (with_reducible refine fro_drewN_of ?_) | (with_reducible refine fro_below_of (by with_reducible assumption) (by (first | exact Nat.le_refl _ | omega | (simp; done) | (simp; omega))) ?_) | (with_reducible refine fro_alloc_of _ (by (first | exact Nat.le_refl _ | omega | (simp; done) | (simp; omega))) ?_) | (with_reducible refine fro_set_of _ ?_)))), (by (repeat' refine And.intro ?_ ?_) <;> (repeat (first | (with_reducible assumption) | (simp; done) | (with_reducible refine cell_drew_of ?_) | (with_reducible refine cell_drewN_of ?_) | (with_reducible refine cell_below_of (by with_reducible assumption) ?_) | ((with_reducible refine cell_new_of ?_ ?_) <;> (first | (with_reducible rfl) | (simp; done))) | ((with_reducible refine fro_new_of ?_) <;> (first | (with_reducible rfl) | (simp; done))) | (with_reducible refine cell_alloc_of _ ?_) | (with_reducible refine cell_set_of _ (by (first | exact Nat.le_refl _ | omega | (simp; done) | (simp; omega))) ?_) | (with_reducible refine fro_drew_of ?_) | (with_reducible refine fro_drewN_of ?_) | (with_reducible refine fro_below_of (by with_reducible assumption) (by (first | exact Nat.le_refl _ | omega | (simp; done) | (simp; omega))) ?_) | (with_reducible refine fro_alloc_of _ (by (first | exact Nat.le_refl _ | omega | (simp; done) | (simp; omega))) ?_) | (with_reducible refine fro_set_of _ ?_)))), (by (repeat' refine And.intro ?_ ?_) <;> (repeat (first | (with_reducible assumption) | (simp; done) | (with_reducible refine cell_drew_of ?_) | (with_reducible refine cell_drewN_of ?_) | (with_reducible refine cell_below_of (by with_reducible assumption) ?_) | ((with_reducible refine cell_new_of ?_ ?_) <;> (first | (with_reducible rfl) | (simp; done))) | ((with_reducible refine fro_new_of ?_) <;> (first | (with_reducible rfl) | (simp; done))) | (with_reducible refine cell_alloc_of _ ?_) | (with_reducible refine cell_set_of _ (by (first | exact Nat.le_refl _ | omega | (simp; done) | (simp; omega))) ?_) | (with_reducible refine fro_drew_of ?_) | (with_reducible refine fro_drewN_of ?_) | (with_reducible refine fro_below_of (by with_reducible assumption) (by (first | exact Nat.le_refl _ | omega | (simp; done) | (simp; omega))) ?_) | (with_reducible refine fro_alloc_of _ (by (first | exact Nat.le_refl _ | omega | (simp; done) | (simp; omega))) ?_) | (with_reducible refine fro_set_of _ ?_)))), (by (repeat' refine And.intro ?_ ?_) <;> (repeat (first | (with_reducible assumption) | (simp; done) | (with_reducible refine cell_drew_of ?_) | (with_reducible refine cell_drewN_of ?_) | (with_reducible refine cell_below_of (by with_reducible assumption) ?_) | ((with_reducible refine cell_new_of ?_ ?_) <;> (first | (with_reducible rfl) | (simp; done))) | ((with_reducible refine fro_new_of ?_) <;> (first | (with_reducible rfl) | (simp; done))) | (with_reducible refine cell_alloc_of _ ?_) | (with_reducible refine cell_set_of _ (by (first | exact Nat.le_refl _ | omega | (simp; done) | (simp; omega))) ?_) | (with_reducible refine fro_drew_of ?_) | (with_reducible refine fro_drewN_of ?_) | (with_reducible refine fro_below_of (by with_reducible assumption) (by (first | exact Nat.le_refl _ | omega | (simp; done) | (simp; omega))) ?_) | (with_reducible refine fro_alloc_of _ (by (first | exact Nat.le_refl _ | omega | (simp; done) | (simp; omega))) ?_) | (with_reducible refine fro_set_of _ ?_)))), (by (repeat' refine And.intro ?_ ?_) <;> (repeat (first | (with_reducible assumption) | (simp; done) | (with_reducible refine cell_drew_of ?_) | (with_reducible refine cell_drewN_of ?_) | (with_reducible refine cell_below_of (by with_reducible assumption) ?_) | ((with_reducible refine cell_new_of ?_ ?_) <;> (first | (with_reducible rfl) | (simp; done))) | ((with_reducible refine fro_new_of ?_) <;> (first | (with_reducible rfl) | (simp; done))) | (with_reducible refine cell_alloc_of _ ?_) | (with_reducible refine cell_set_of _ (by (first | exact Nat.le_refl _ | omega | (simp; done) | (simp; omega))) ?_) | (with_reducible refine fro_drew_of ?_) | (with_reducible refine fro_drewN_of ?_) | (with_reducible refine fro_below_of (by with_reducible assumption) (by (first | exact Nat.le_refl _ | omega | (simp; done) | (simp; omega))) ?_) | (with_reducible refine fro_alloc_of _ (by (first | exact Nat.le_refl _ | omega | (simp; done) | (simp; omega))) ?_) | (with_reducible refine fro_set_of _ ?_)))), (by (repeat' refine And.intro ?_ ?_) <;> (repeat (first | (with_reducible assumption) | (simp; done) | (with_reducible refine cell_drew_of ?_) | (with_reducible refine cell_drewN_of ?_) | (with_reducible refine cell_below_of (by with_reducible assumption) ?_) | ((with_reducible refine cell_new_of ?_ ?_) <;> (first | (with_reducible rfl) | (simp; done))) | ((with_reducible refine fro_new_of ?_) <;> (first | (with_reducible rfl) | (simp; done))) | (with_reducible refine cell_alloc_of _ ?_) | (with_reducible refine cell_set_of _ (by (first | exact Nat.le_refl _ | omega | (simp; done) | (simp; omega))) ?_) | (with_reducible refine fro_drew_of ?_) | (with_reducible refine fro_drewN_of ?_) | (with_reducible refine fro_below_of (by with_reducible assumption) (by (first | exact Nat.le_refl _ | omega | (simp; done) | (simp; omega))) ?_) | (with_reducible refine fro_alloc_of _ (by (first | exact Nat.le_refl _ | omega | (simp; done) | (simp; omega))) ?_) | (with_reducible refine fro_set_of _ ?_))))⟩, (by repeat (first | (with_reducible exact Below.refl _ _) | (with_reducible assumption) | (with_reducible refine Below.drew ?_) | ((with_reducible refine below_alloc ?_ ?_ _); (· (first | exact Nat.le_refl _ | omega | (dsimp only; omega) | (simp only [World.size_alloc, World.size_drew, World.heap_drewN]; omega) | (simp; omega)))) | ((with_reducible refine below_set ?_ ?_ _); (· (first | exact Nat.le_refl _ | omega | (dsimp only; omega) | (simp only [World.size_alloc, World.size_drew, World.heap_drewN]; omega) | (simp; omega)))) | ((with_reducible refine below_via (by with_reducible assumption) ?_ ?_); (· (first | exact Nat.le_refl _ | omega | (dsimp only; omega) | (simp only [World.size_alloc, World.size_drew, World.heap_drewN]; omega) | (simp; omega)))))), by simp⟩ ?_
  rintro w8 ⟨hv8, hb8, hs8⟩
  have HV8 := Lib.hid hv8
  have HG8 := Lib.hid (HG7.out.later hb8)
  have HU8 := Lib.hid (HU7.out.later hb8)
  have HX8 := Lib.hid (HX7.out.later hb8)
  have HR8 := Lib.hid (HR7.out.on hb8)
  have HRm8 := Lib.hid (HRm7.out.later (hb8.mono hz7))
  have HC8 := Lib.hid (HC7.out.later hb8)
  have HB8 := Lib.hid (HB7.out.trans (hb8.mono hs7'))
  have hs8' := HB8.out.size
  have HOB8 := Lib.hid (HOB.out.later hb8)
  have HODR8 := Lib.hid (owns_later HODR.out hb8)
  have HN8 : Hid (RwRow w8 w8.heap.size r0.bare bA2 bc2 dA2 dc2 vA2 vc2) := Lib.hid ⟨Nat.le_refl _, HOB8.out.row, (HOD.out.later hb8).row, fun q hq => absurd hq (by show ¬ q < 0; omega), by have := HR8.out.n1; exact this, by have := HR8.out.d1; exact this, by show 0 ≤ 1000; omega, hbc2, hdc2, by show 0 ≤ vc2; omega⟩
  obtain ⟨wx, hwx⟩ : ∃ wx, wx = w7.heap.size := ⟨_, rfl⟩
  rw [← hwx] at HV8 hs8 hz7
  rw [← hwx]
  have hnw : ∀ q, (Value.slice dA2 r0.bare.d dc2).ownBlock = some q → q < wx := fun q hq => by
    rw [hwx]
    exact (HODR.out.lt q hq).2
  have hmw : m0 ≤ wx := by
    have := HODR.out.lt
    rw [hwx]
    rcases HODR.out.2 with ⟨h1, h2⟩ | ⟨g, cap, cur, h1, h2, h3, _⟩
    · omega
    · have : g < w7.heap.size := (Array.getElem?_eq_some_iff.1 h3).1
      omega
  clear hwx hv8 hb8 HG7 HU7 HX7 HR7 HC7 HB7 HOB HOD HODR
  obtain ⟨c0, c1, c2, -, -, -⟩ := HV8.out
  go_wp2_with fail
  refine (Spans_any r0.bare bA2 dA2 vA2 bc2 dc2 vc2 _ HN8.out).mono ?_
  intro e w9 hpost
  obtain ⟨sA, sc, rfl, hsr, hsc, hb9, hsA⟩ := sps_of2 (n := r0.bare.n) hn1 hpost (Rw.check_ok.2 HOK.out)
  have HV9 := Lib.hid (HV8.out.same (hb9.block _ HV8.out.lt))
  have HG9 := Lib.hid (HG8.out.later hb9)
  have HU9 := Lib.hid (HU8.out.later hb9)
  have HX9 := Lib.hid (HX8.out.later hb9)
  have HR9 := Lib.hid (HR8.out.on hb9)
  have HRm9 := Lib.hid ((HRm8.out.later (hb9.mono (by omega))).up hm01 (by have := hb9.size; omega))
  have HC9 := Lib.hid (HC8.out.later hb9)
  have HB9 := Lib.hid (HB8.out.trans (hb9.mono hs8'))
  have HOB9 := Lib.hid (HOB8.out.later hb9)
  have HODR9 := Lib.hid (owns_later HODR8.out hb9)
  have HS9 := Lib.hid hsr
  have hs9' := HB9.out.size
  have HB09 : Hid (BnRow w9 m0 bA2 r0.bare.n r0.bare.B) := Lib.hid (fun q hq => by
    obtain ⟨b', o', hA, _, hc⟩ := HOB9.out.row q hq
    exact ⟨b', o', hA, HLB.out _ hA, hc⟩)
  have HL9 : Hid (LtAt w9 w9 m0 wx k r0.bare 0 bA2 bc2 vA2 vc2 sA (.slice dA2 r0.bare.d dc2)) := Lib.hid ⟨HV9.out, by rw [days_zero]; exact HODR9.out, HS9.out, fun e => by have := hnw _ e; omega, fun a ha => by
    have h1 := hsA a ha
    exact ⟨fun e => by have := hnw _ e; omega, by omega⟩, Below.refl _ _, hmw⟩
  have hlt9 : rx < m0 ∧ ux < m0 ∧ gx < m0 := by omega
  have HC09 : Hid (w9.cell? ⟨rx, 0, none⟩ = some (.slice (some ⟨bb, bo, none⟩) r0.bare.n bc) ∧ N2c w9 ux y1 y2 ∧ N2c w9 gx z1 z2) := Lib.hid ⟨HX9.out.1, HU9.out, HG9.out⟩
  clear hpost hsr hb9 HV8 HG8 HU8 HX8 HR8 HC8 HB8 HOB8 HODR8 HN8 c0 c1 c2
  obtain ⟨c0, c1, c2⟩ := HX9.out
  have hnn : ((r0.bare.n : Int) != (r0.bare.n : Int)) = false := by simp
  go_upto_block 0 with fail
  refine later_loop1 r0.bare HOK (Lib.hid rfl) b k hbn hk3 mo hmo rx ux gx wx m0 hrd.2 hn6 _ bA2 vA2 sA bc bc2 vc2 sc hbc2 (by show 0 ≤ vc2; omega) y1 y2 z1 z2 HU HG w9 HB09 HC09 hlt9 _ HL9 _ ?_
  intro x8 x19 x20 x21 x77 x78 x79 x80 x81 x82 x83 x84 x85 x86 x87 x88 x89 x90 x91 x92 x93 x94 x95 x96 x97 x98 x99 x100 x101 x102 x103 x104 x105 x106 x107 x108 x109 x110 x111 x112 x113 x114 x115 x116 x117 x118 x119 x120 x121 x122 x123 x124 x125 x126 x127 x128 x129 x130 x131 x132 x133 x134 x135 x136 x137 x138 x139 x140 x141 x142 x143 x144 x145 x146 x147 x148 x149 x150 x151 x152 x153 x154 x155 x156 x157 x158 x159 x160 x161 x162 x163 x164 x165 x166 x167 w10 HW
  have hz10 := HW.out.size
  have HX10 := Lib.hid (HX9.out.same (HW.out.block _ hlt9.1))
  have HR10 := Lib.hid ((HRm9.out.later HW.out).up (by have := HRm9.out.lt; omega) (Nat.le_refl _))
  have HC10 := Lib.hid (HC9.out.keep (fun i hi => HW.out.block i (by omega)))
  have HB10 := Lib.hid (HB9.out.trans (HW.out.mono (by omega)))
  clear HW HX9 HR9 HC9 HB9 HG9 HU9 HV9 HOB9 HODR9 HS9 HRm9 HB09 HL9 HC09 HLB HU HG c0 c1 c2
  go_wp2_with fail
  refine (pull_any W.heap.size cb nA nn nc 9 (by omega) hln _ HC10.out).mono ?_
  rintro e w11 ⟨p0, rfl, hp0, hp0', hg11, hc11⟩
  have hs10 := HB10.out.size
  have HX11 := Lib.hid (HX10.out.same (hg11.block _ HX10.out.lt (fun e => by injection e with e; omega)))
  have HR11 := Lib.hid (HR10.out.grown hg11 HNE.out)
  have HC11 := Lib.hid hc11
  have HB11 := Lib.hid (HB10.out.trans (gb_below hg11 hs10 hcb))
  have hs11 := HB11.out.size
  have hP0 : 0 ≤ p0 ∧ p0 ≤ 9 := by omega
  clear hg11 hc11 HX10 HR10 HC10 HB10 hp0 hp0'
  go_wp2_with fail
  refine (pull_any W.heap.size cb nA nn nc 9 (by omega) hln _ HC11.out).mono ?_
  rintro e w12 ⟨p1, rfl, hp1, hp1', hg12, hc12⟩
  have HX12 := Lib.hid (HX11.out.same (hg12.block _ HX11.out.lt (fun e => by injection e with e; omega)))
  have HR12 := Lib.hid (HR11.out.grown hg12 HNE.out)
  have HC12 := Lib.hid hc12
  have HB12 := Lib.hid (HB11.out.trans (gb_below hg12 hs11 hcb))
  have hs12 := HB12.out.size
  have hP1 : 0 ≤ p1 ∧ p1 ≤ 9 := by omega
  clear hg12 hc12 HX11 HR11 HC11 HB11 hp1 hp1'
  go_wp2_with fail
  refine (between_any W.heap.size cb nA nn nc 1 9 (by omega) (by omega) (by omega) hln _ HC12.out).mono ?_
  rintro e w13 ⟨p2, rfl, hp2, hp2', hg13, hc13⟩
  have HX13 := Lib.hid (HX12.out.same (hg13.block _ HX12.out.lt (fun e => by injection e with e; omega)))
  have HR13 := Lib.hid (HR12.out.grown hg13 HNE.out)
  have HB13 := Lib.hid (HB12.out.trans (gb_below hg13 hs12 hcb))
  have hs13 := HB13.out.size
  have hP2 : 1 ≤ p2 ∧ p2 ≤ 9 := by omega
  clear hg13 hc13 HX12 HR12 HC12 HB12 hp2 hp2'
  go_upto_region 22 with fail
  refine wp_world (fun w' => (w'.cell? ⟨w13.heap.size, 0, none⟩ = some (.int .i64 p0) ∧ w'.cell? ⟨w13.heap.size, 1, none⟩ = some (.int .i64 p1) ∧ w'.cell? ⟨w13.heap.size, 2, none⟩ = some (.int .i64 p2)) ∧ Below w13.heap.size w13 w' ∧ w13.heap.size + 1 ≤ w'.heap.size) ⟨⟨(by (repeat' refine And.intro ?_ ?_) <;> (repeat (first | (with_reducible assumption) | (simp; done) | (with_reducible refine cell_drew_of ?_) | (with_reducible refine cell_drewN_of ?_) | (with_reducible refine cell_below_of (by with_reducible assumption) ?_) | ((with_reducible refine cell_new_of ?_ ?_) <;> (first | (with_reducible rfl) | (simp; done))) | ((with_reducible refine fro_new_of ?_) <;> (first | (with_reducible rfl) | (simp; done))) | (with_reducible refine cell_alloc_of _ ?_) | (with_reducible refine cell_set_of _ (by (first | exact Nat.le_refl _ | omega | (simp; done) | (simp; omega))) ?_) | (with_reducible refine fro_drew_of ?_) | (with_reducible refine fro_drewN_of ?_) | (with_reducible refine fro_below_of (by with_reducible assumption) (by (first | exact Nat.le_refl _ | omega | (simp; done) | (simp; omega))) ?_) | (with_reducible refine fro_alloc_of _ (by (first | exact Nat.le_refl _ | omega | (simp; done) | (simp; omega))) ?_) | (with_reducible refine fro_set_of _ ?_)))), (by (repeat' refine And.intro ?_ ?_) <;> (repeat (first | (with_reducible assumption) | (simp; done) | (with_reducible refine cell_drew_of ?_) | (with_reducible refine cell_drewN_of ?_) | (with_reducible refine cell_below_of (by with_reducible assumption) ?_) | ((with_reducible refine cell_new_of ?_ ?_) <;> (first | (with_reducible rfl) | (simp; done))) | ((with_reducible refine fro_new_of ?_) <;> (first | (with_reducible rfl) | (simp; done))) | (with_reducible refine cell_alloc_of _ ?_) | (with_reducible refine cell_set_of _ (by (first | exact Nat.le_refl _ | omega | (simp; done) | (simp; omega))) ?_) | (with_reducible refine fro_drew_of ?_) | (with_reducible refine fro_drewN_of ?_) | (with_reducible refine fro_below_of (by with_reducible assumption) (by (first | exact Nat.le_refl _ | omega | (simp; done) | (simp; omega))) ?_) | (with_reducible refine fro_alloc_of _ (by (first | exact Nat.le_refl _ | omega | (simp; done) | (simp; omega))) ?_) | (with_reducible refine fro_set_of _ ?_)))), (by (repeat' refine And.intro ?_ ?_) <;> (repeat (first | (with_reducible assumption) | (simp; done) | (with_reducible refine cell_drew_of ?_) | (with_reducible refine cell_drewN_of ?_) | (with_reducible refine cell_below_of (by with_reducible assumption) ?_) | ((with_reducible refine cell_new_of ?_ ?_) <;> (first | (with_reducible rfl) | (simp; done))) | ((with_reducible refine fro_new_of ?_) <;> (first | (with_reducible rfl) | (simp; done))) | (with_reducible refine cell_alloc_of _ ?_) | (with_reducible refine cell_set_of _ (by (first | exact Nat.le_refl _ | omega | (simp; done) | (simp; omega))) ?_) | (with_reducible refine fro_drew_of ?_) | (with_reducible refine fro_drewN_of ?_) | (with_reducible refine fro_below_of (by with_reducible assumption) (by (first | exact Nat.le_refl _ | omega | (simp; done) | (simp; omega))) ?_) | (with_reducible refine fro_alloc_of _ (by (first | exact Nat.le_refl _ | omega | (simp; done) | (simp; omega))) ?_) | (with_reducible refine fro_set_of _ ?_))))⟩, (by repeat (first | (with_reducible exact Below.refl _ _) | (with_reducible assumption) | (with_reducible refine Below.drew ?_) | ((with_reducible refine below_alloc ?_ ?_ _); (· (first | exact Nat.le_refl _ | omega | (dsimp only; omega) | (simp only [World.size_alloc, World.size_drew, World.heap_drewN]; omega) | (simp; omega)))) | ((with_reducible refine below_set ?_ ?_ _); (· (first | exact Nat.le_refl _ | omega | (dsimp only; omega) | (simp only [World.size_alloc, World.size_drew, World.heap_drewN]; omega) | (simp; omega)))) | ((with_reducible refine below_via (by with_reducible assumption) ?_ ?_); (· (first | exact Nat.le_refl _ | omega | (dsimp only; omega) | (simp only [World.size_alloc, World.size_drew, World.heap_drewN]; omega) | (simp; omega)))))), by simp⟩ ?_
  rintro w14 ⟨⟨q0, q1, q2⟩, hb14, hs14⟩
  have HX14 := Lib.hid (HX13.out.later hb14)
  have HR14 := Lib.hid (HR13.out.on hb14)
  have HB14 := Lib.hid (HB13.out.trans (hb14.mono hs13))
  obtain ⟨qx, hqx⟩ : ∃ qx, qx = w13.heap.size := ⟨_, rfl⟩
  rw [← hqx] at q0 q1 q2 hs14
  rw [← hqx]
  have HQ14 : Hid (IntRow w14 w14.heap.size (some ⟨qx, 0, none⟩) 3 (itL [p0, p1, p2])) := Lib.hid (fun q hq => ⟨qx, 0, rfl, by omega, by
    rcases (show q = 0 ∨ q = 1 ∨ q = 2 by omega) with rfl | rfl | rfl
    · exact q0
    · exact q1
    · exact q2⟩)
  have hXX : ∀ q, q < 3 → 0 ≤ itL [p0, p1, p2] q ∧ itL [p0, p1, p2] q ≤ 9 := fun q hq => by
    rcases (show q = 0 ∨ q = 1 ∨ q = 2 by omega) with rfl | rfl | rfl
    · exact hP0
    · exact hP1
    · show 0 ≤ p2 ∧ p2 ≤ 9; omega
  have hp2 : 1 ≤ itL [p0, p1, p2] 2 := hP2.1
  have hs14' := HB14.out.size
  have hez := Rw.exp_zero HOK.out hbn hXX hp2
  obtain ⟨u1, v1, u2, v2, hr1, hr2, hv1, hv2, hu1, hu2, hr3, hr4, hr5⟩ := later_rats (x := r0.bare.B b) hXX hp2 (fun q hq => by have := (HOK.out.b b hbn).g q hq; omega)
  obtain ⟨X, hX⟩ : ∃ X, X = itL [p0, p1, p2] := ⟨_, rfl⟩
  rw [← hX] at HQ14 hXX hez hr1 hr2 hr4 hr5
  clear q0 q1 q2 hb14 hqx HX13 HR13 HB13
  obtain ⟨c0, c1, c2⟩ := HX14.out
  go_wp2_with fail
  refine (Expect_any r0.bare (b : Int) 3 X _ 3 (by omega) (some ⟨bb, bo, none⟩) dA none bc dc 0 _ HR14.out HQ14.out).mono ?_
  rintro e w15 ⟨rfl, hb15⟩
  have ex1 : r0.bare.expR (b : Int) 3 X Sp.a = (u1, v1) := by
    unfold Rw.expR
    rw [if_pos hez, Int.toNat_natCast]
    exact hr1
  have ex2 : r0.bare.expR (b : Int) 3 X Sp.b = (u2, v2) := by
    unfold Rw.expR
    rw [if_pos hez, Int.toNat_natCast]
    exact hr2
  rw [hez, ex1, ex2]
  have HX15 := Lib.hid (HX14.out.later hb15)
  have HR15 := Lib.hid (HR14.out.on hb15)
  have HB15 := Lib.hid (HB14.out.trans (hb15.mono hs14'))
  have HQ15 := Lib.hid ((HQ14.out.below hb15).mono hb15.size)
  have hs15 := HB15.out.size
  clear hez hr1 hr2 ex1 ex2 c0 c1 c2 hb15 HX14 HR14 HB14 HQ14
  go_upto_region 23 with fail
  refine wp_world (fun w' => N2c w' w15.heap.size u1 v1 ∧ N2c w' (w15.heap.size + 1) u2 v2 ∧ Below w15.heap.size w15 w' ∧ w15.heap.size + 2 ≤ w'.heap.size) ⟨⟨(by (repeat' refine And.intro ?_ ?_) <;> (repeat (first | (with_reducible assumption) | (simp; done) | (with_reducible refine cell_drew_of ?_) | (with_reducible refine cell_drewN_of ?_) | (with_reducible refine cell_below_of (by with_reducible assumption) ?_) | ((with_reducible refine cell_new_of ?_ ?_) <;> (first | (with_reducible rfl) | (simp; done))) | ((with_reducible refine fro_new_of ?_) <;> (first | (with_reducible rfl) | (simp; done))) | (with_reducible refine cell_alloc_of _ ?_) | (with_reducible refine cell_set_of _ (by (first | exact Nat.le_refl _ | omega | (simp; done) | (simp; omega))) ?_) | (with_reducible refine fro_drew_of ?_) | (with_reducible refine fro_drewN_of ?_) | (with_reducible refine fro_below_of (by with_reducible assumption) (by (first | exact Nat.le_refl _ | omega | (simp; done) | (simp; omega))) ?_) | (with_reducible refine fro_alloc_of _ (by (first | exact Nat.le_refl _ | omega | (simp; done) | (simp; omega))) ?_) | (with_reducible refine fro_set_of _ ?_)))), (by (repeat' refine And.intro ?_ ?_) <;> (repeat (first | (with_reducible assumption) | (simp; done) | (with_reducible refine cell_drew_of ?_) | (with_reducible refine cell_drewN_of ?_) | (with_reducible refine cell_below_of (by with_reducible assumption) ?_) | ((with_reducible refine cell_new_of ?_ ?_) <;> (first | (with_reducible rfl) | (simp; done))) | ((with_reducible refine fro_new_of ?_) <;> (first | (with_reducible rfl) | (simp; done))) | (with_reducible refine cell_alloc_of _ ?_) | (with_reducible refine cell_set_of _ (by (first | exact Nat.le_refl _ | omega | (simp; done) | (simp; omega))) ?_) | (with_reducible refine fro_drew_of ?_) | (with_reducible refine fro_drewN_of ?_) | (with_reducible refine fro_below_of (by with_reducible assumption) (by (first | exact Nat.le_refl _ | omega | (simp; done) | (simp; omega))) ?_) | (with_reducible refine fro_alloc_of _ (by (first | exact Nat.le_refl _ | omega | (simp; done) | (simp; omega))) ?_) | (with_reducible refine fro_set_of _ ?_))))⟩, ⟨(by (repeat' refine And.intro ?_ ?_) <;> (repeat (first | (with_reducible assumption) | (simp; done) | (with_reducible refine cell_drew_of ?_) | (with_reducible refine cell_drewN_of ?_) | (with_reducible refine cell_below_of (by with_reducible assumption) ?_) | ((with_reducible refine cell_new_of ?_ ?_) <;> (first | (with_reducible rfl) | (simp; done))) | ((with_reducible refine fro_new_of ?_) <;> (first | (with_reducible rfl) | (simp; done))) | (with_reducible refine cell_alloc_of _ ?_) | (with_reducible refine cell_set_of _ (by (first | exact Nat.le_refl _ | omega | (simp; done) | (simp; omega))) ?_) | (with_reducible refine fro_drew_of ?_) | (with_reducible refine fro_drewN_of ?_) | (with_reducible refine fro_below_of (by with_reducible assumption) (by (first | exact Nat.le_refl _ | omega | (simp; done) | (simp; omega))) ?_) | (with_reducible refine fro_alloc_of _ (by (first | exact Nat.le_refl _ | omega | (simp; done) | (simp; omega))) ?_) | (with_reducible refine fro_set_of _ ?_)))), (by (repeat' refine And.intro ?_ ?_) <;> (repeat (first | (with_reducible assumption) | (simp; done) | (with_reducible refine cell_drew_of ?_) | (with_reducible refine cell_drewN_of ?_) | (with_reducible refine cell_below_of (by with_reducible assumption) ?_) | ((with_reducible refine cell_new_of ?_ ?_) <;> (first | (with_reducible rfl) | (simp; done))) | ((with_reducible refine fro_new_of ?_) <;> (first | (with_reducible rfl) | (simp; done))) | (with_reducible refine cell_alloc_of _ ?_) | (with_reducible refine cell_set_of _ (by (first | exact Nat.le_refl _ | omega | (simp; done) | (simp; omega))) ?_) | (with_reducible refine fro_drew_of ?_) | (with_reducible refine fro_drewN_of ?_) | (with_reducible refine fro_below_of (by with_reducible assumption) (by (first | exact Nat.le_refl _ | omega | (simp; done) | (simp; omega))) ?_) | (with_reducible refine fro_alloc_of _ (by (first | exact Nat.le_refl _ | omega | (simp; done) | (simp; omega))) ?_) | (with_reducible refine fro_set_of _ ?_))))⟩, (by repeat (first | (with_reducible exact Below.refl _ _) | (with_reducible assumption) | (with_reducible refine Below.drew ?_) | ((with_reducible refine below_alloc ?_ ?_ _); (· (first | exact Nat.le_refl _ | omega | (dsimp only; omega) | (simp only [World.size_alloc, World.size_drew, World.heap_drewN]; omega) | (simp; omega)))) | ((with_reducible refine below_set ?_ ?_ _); (· (first | exact Nat.le_refl _ | omega | (dsimp only; omega) | (simp only [World.size_alloc, World.size_drew, World.heap_drewN]; omega) | (simp; omega)))) | ((with_reducible refine below_via (by with_reducible assumption) ?_ ?_); (· (first | exact Nat.le_refl _ | omega | (dsimp only; omega) | (simp only [World.size_alloc, World.size_drew, World.heap_drewN]; omega) | (simp; omega)))))), by simp⟩ ?_
  rintro w16 ⟨he1, he2, hb16, hs16⟩
  have HE1 := Lib.hid he1
  have HE2 := Lib.hid he2
  have HX16 := Lib.hid (HX15.out.later hb16)
  have HR16 := Lib.hid (HR15.out.on hb16)
  have HB16 := Lib.hid (HB15.out.trans (hb16.mono hs15))
  have HQ16 := Lib.hid ((HQ15.out.below hb16).mono hb16.size)
  have hs16' := HB16.out.size
  obtain ⟨ex, hex⟩ : ∃ ex, ex = w15.heap.size := ⟨_, rfl⟩
  rw [← hex] at HE1 HE2 hs16 he1 he2
  rw [← hex]
  have f1 := he1.2
  have f2 := he2.2
  have ha1 : ¬ v1 < 1 := by omega
  have ha2 : ¬ v2 < 1 := by omega
  have ha3 : ¬ 300 < v1 := by omega
  have ha4 : ¬ 300 < v2 := by omega
  obtain ⟨c0, c1, c2⟩ := HX16.out
  obtain ⟨bb', bo', hbA', hbl', d0, d1, d2, d3, d4, d5, -⟩ := HR16.out.b b hbn
  injection hbA' with hbA'
  injection hbA' with hbA1 hbA2
  subst hbA1 hbA2
  clear hb16 hex HX15 HR15 HB15 HQ15 he1 he2
  go_upto_block 2 with fail
  refine later_loop2 (r0.bare.B b) X _ 3 w16 HQ16 _ ?_
  intro x27 x28 x211 x212 x213 x214 x215 x216 x217 x218 x219 x220 x221 x222 x223 x224 x225 x226 x227 x228 w17 HW
  have HE1' := Lib.hid (HE1.out.later HW.out)
  have HE2' := Lib.hid (HE2.out.later HW.out)
  have HB17 := Lib.hid (HB16.out.trans (HW.out.mono hs16'))
  have hs17 := HB17.out.size
  obtain ⟨l, hl⟩ : ∃ l, l = lstN (r0.bare.B b) X 3 := ⟨_, rfl⟩
  obtain ⟨g, hg⟩ : ∃ g, g = grtN (r0.bare.B b) X 3 := ⟨_, rfl⟩
  obtain ⟨⟨hl0, hl1⟩, ⟨hg0, hg1⟩, -⟩ := lstN_bd (x := r0.bare.B b) (X := X) (fun q hq => by have := (HOK.out.b b hbn).g q hq; omega) 3 (by omega)
  rw [← hl] at hl0 hl1 hr4 ⊢
  rw [← hg] at hg0 hg1 hr5 ⊢
  clear hl hg HW HE1 HE2 HX16 HR16 HB16 HQ16 c0 c1 c2 d0 d1 d2 d3 d4 d5 f1 f2
  obtain ⟨e0, e1⟩ := HE1'.out
  obtain ⟨f0, f1⟩ := HE2'.out
  have m1 := mul_bd (u := u1) (v := v2) (a := 1350) (b := 27) (by omega) (by omega) (by omega)
  have m2 := mul_bd (u := u2) (v := v1) (a := 1350) (b := 27) (by omega) (by omega) (by omega)
  have m3 := mul_bd (u := l) (v := v1) (a := 50) (b := 27) (by omega) (by omega) (by omega)
  have m4 := mul_bd (u := g) (v := v2) (a := 50) (b := 27) (by omega) (by omega) (by omega)
  have a1 : IntKind.i64.wrap (u1 * v2) = u1 * v2 := IntWalk.i64_in _ (by omega)
  have a2 : IntKind.i64.wrap (u2 * v1) = u2 * v1 := IntWalk.i64_in _ (by omega)
  have a3 : IntKind.i64.wrap (l * v1) = l * v1 := IntWalk.i64_in _ (by omega)
  have a4 : IntKind.i64.wrap (g * v2) = g * v2 := IntWalk.i64_in _ (by omega)
  clear m1 m2 m3 m4
  go_wp2_with fail
  refine (awake_any _).mono ?_
  rintro e wc ⟨rfl, hb⟩
  have Hc := Lib.hid (HB17.out.trans (hb.mono hs17))
  clear hb
  go_wp2_with fail
  go_ret
  exact ⟨rfl, Hc.out⟩
end Go.Proofs.Ytnnikeolgknfoaa
