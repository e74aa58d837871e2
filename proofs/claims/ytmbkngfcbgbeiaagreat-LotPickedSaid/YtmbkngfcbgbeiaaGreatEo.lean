/- laystalllaw05.Made: a belt drawn from a chute. -/
import Derived.Test.YtmbkngfcbgbeiaaGreatEn
import Derived.Test.YtmbkngfcbgbeiaaGreatWv
import Derived.Deep.RegionLaw
set_option linter.unusedSimpArgs false
set_option linter.unusedVariables false
namespace Go.Proofs.YtmbkngfcbgbeiaaGreat
open Go.RowKit Go.Shelf

/-- what Made gives -/
def MadeB (B cb : Nat) (lA : Option Addr) (ln lc : Nat) (W : World) (e : Ending) (W' : World) : Prop :=
  ∃ (nt nh : Nat) (T : Nat → Nat → Int) (G : Nat → HndA) (tA hA : Option Addr) (tc hc : Nat), e = .returned (beV tA nt tc hA nh hc) ∧ BeltOk nt nh T G ∧ nt ≤ 3 ∧ nh ≤ 3 ∧ BeltRow W' W'.heap.size tA nt T hA nh G ∧ W.grownBy W' (some cb) ∧ Chute W' B cb lA ln lc ∧ nt ≤ tc ∧ nh ≤ hc
theorem RsAt.put {w : World} {base : Nat} {v : Value} {n nt : Nat} {G : Nat → HndA} (h : RsAt w base v n nt G) (x : HndA) (h1 : x.h.nr ≤ nt) (h2 : ∀ j, j < x.h.nr → 0 ≤ x.h.rs j ∧ x.h.rs j < (nt : Int)) (h3 : ∀ j, j + 1 < x.h.nr → x.h.rs j < x.h.rs (j + 1)) (h4 : ∀ j, j < x.h.nr → ∃ b, x.a = some ⟨b, 0, none⟩ ∧ base ≤ b ∧ v.ownBlock ≠ some b ∧ w.cell? ⟨b, j, none⟩ = some (.int .i64 (x.h.rs j))) : RsAt w base v (n + 1) nt (fun p => if p = n then x else G p) := fun k hk => by
  dsimp only
  by_cases e : k = n
  · rw [if_pos e]; exact ⟨h1, h2, h3, h4⟩
  · rw [if_neg e]; exact h k (by omega)
theorem gb_own {W wr w' : World} {cb : Nat} {v : Option Nat} (h : W.grownBy wr (some cb)) (hg : wr.grownBy w' v) (hv : ∀ g, v = some g → W.heap.size ≤ g) : W.grownBy w' (some cb) :=
  ⟨hg.os.trans h.os, hg.tape.trans h.tape, hg.output.trans h.output, Nat.le_trans h.size hg.size, fun i hi hn => (hg.block i (Nat.lt_of_lt_of_le hi h.size) (fun e => by have := hv i e.symm; omega)).trans (h.block i hi hn)⟩
theorem gb_cell {W wr : World} {cb : Nat} (h : W.grownBy wr (some cb)) {a : Addr} (ha : W.heap.size ≤ a.block) (v : Value) : W.grownBy (wr.setCell a v) (some cb) :=
  ⟨h.os, h.tape, h.output, by have := h.size; simpa [World.setCell] using this, fun i hi hn => (Below.heap_setCell _ _ _ _ (by omega)).trans (h.block i hi hn)⟩
theorem gb_new {W wr : World} {cb : Nat} (h : W.grownBy wr (some cb)) (o : Obj) : W.grownBy (wr.alloc o) (some cb) :=
  ⟨h.os, h.tape, h.output, by have := h.size; simp; omega, fun i hi hn => (Below.heap_alloc _ _ _ (Nat.lt_of_lt_of_le hi h.size)).trans (h.block i hi hn)⟩

/-- Made at work: the trays are drawn, and so many hands -/
structure MdAt (w0 wr : World) (B cb : Nat) (lA : Option Addr) (ln lc base : Nat) (tv v : Value) (nt k : Nat) (T : Nat → Nat → Int) (G : Nat → HndA) : Prop where
  o : V2 wr (w0.heap.size + 1) tv v
  r : V2 wr w0.heap.size (.slice none 0 0) (.slice none 0 0)
  t : wr.ownsRow (w0.heap.size + 2) 60 5 tv nt (rowC trC T nt)
  h : wr.ownsRow base 40 9 v k (rowC hdC G k)
  s : RsAt wr base v k nt G
  c : Chute wr B cb lA ln lc
  g : w0.grownBy wr (some cb)
  z : base ≤ wr.heap.size
  l : w0.heap.size + 2 ≤ base ∧ cb < w0.heap.size ∧ B ≤ w0.heap.size
  q : ∀ g, tv.ownBlock = some g → g < base
theorem MdAt.chute {w0 wr w' : World} {B cb : Nat} {lA : Option Addr} {ln lc base : Nat} {tv v : Value} {nt k : Nat} {T : Nat → Nat → Int} {G : Nat → HndA} (h : MdAt w0 wr B cb lA ln lc base tv v nt k T G) (hg : wr.grownBy w' (some cb)) (hc : Chute w' B cb lA ln lc) : MdAt w0 w' B cb lA ln lc base tv v nt k T G := by
  have hz := h.z
  have hl := h.l
  have hs := hg.size
  refine ⟨h.o.same (hg.block _ (by omega) (fun e => by injection e with e; omega)), h.r.same (hg.block _ (by omega) (fun e => by injection e with e; omega)), own_keep h.t hg (by omega), own_keep h.h hg (by omega), h.s.keep (fun g h1 h2 h3 => ⟨h3, hg.block g h2 (fun e => by injection e with e; omega)⟩), hc, gb_trans h.g hg, by omega, hl, h.q⟩
theorem MdAt.later {w0 wr w' : World} {B cb : Nat} {lA : Option Addr} {ln lc base : Nat} {tv v : Value} {nt k : Nat} {T : Nat → Nat → Int} {G : Nat → HndA} (h : MdAt w0 wr B cb lA ln lc base tv v nt k T G) (hb : Below wr.heap.size wr w') : MdAt w0 w' B cb lA ln lc base tv v nt k T G :=
  h.chute (gb_of_below cb hb) (h.c.later hb)

/-- the belt that is handed back -/
theorem md_end {w0 wr w' : World} {B cb : Nat} {lA : Option Addr} {ln lc base : Nat} {tA hA : Option Addr} {tc hc nt k : Nat} {T : Nat → Nat → Int} {G : Nat → HndA} (h : MdAt w0 wr B cb lA ln lc base (.slice tA nt tc) (.slice hA k hc) nt k T G) (hw : ∀ i, i ≠ w0.heap.size → w'.heap[i]? = wr.heap[i]?) (hs : w'.heap.size = wr.heap.size) (ho : w'.os = wr.os ∧ w'.tape = wr.tape ∧ w'.output = wr.output) : BeltRow w' w'.heap.size tA nt T hA k G ∧ w0.grownBy w' (some cb) ∧ Chute w' B cb lA ln lc := by
  have hl := h.l
  have hg := h.g
  refine ⟨⟨Nat.le_refl _, ?_, ?_, fun p hp => ?_⟩, ⟨ho.1.trans hg.os, ho.2.1.trans hg.tape, ho.2.2.trans hg.output, by rw [hs]; exact hg.size, fun i hi hn => (hw i (by omega)).trans (hg.block i hi hn)⟩, h.c.keep (fun i hi => hw i (by omega))⟩
  · obtain ⟨A, c, e, hr, _⟩ := trRow_of (owns_sm h.t (fun g h1 _ => hw g (by omega)))
    injection e with e
    rw [e]; exact hr
  · obtain ⟨A, c, e, hr, _⟩ := hdRow_of (owns_sm h.h (fun g h1 _ => hw g (by omega)))
    injection e with e
    rw [e]; exact hr
  · exact (RsAt.keep h.s (v' := .slice hA k hc) (fun g h1 h2 h3 => ⟨h3, hw g (by omega)⟩)).row p hp

set_option maxRecDepth 100000 in
set_option maxHeartbeats 0 in
theorem bmade_any (B cb : Nat) (lA : Option Addr) (ln lc : Nat) (hln : ln ≤ 9223372036854775807) (W : World) (hB : B ≤ W.heap.size) (hcb : cb < W.heap.size) (hc : Chute W B cb lA ln lc) :
    Calls Tryz.prog 5 #[.pointer (some ⟨cb, 0, none⟩), .int .i64 3, .int .i64 3] W (MadeB B cb lA ln lc W) := by
  have HC := Lib.hid hc
  clear hc
  obtain ⟨i0, hi, hz0, hz1, hz2⟩ := info_parts infoTr
  obtain ⟨j0, ji, jz0, jz1, jz2⟩ := info_parts infoHd
  obtain ⟨n0, ni, nz0, nz1, nz2⟩ := info_parts infoInt
  go_enter Tryz.func5, Tryz.ntmps5
  go_upto_region 2 with fail
  refine wp_world (fun W1 => V2 W1 W.heap.size (.slice none 0 0) (.slice none 0 0) ∧ V2 W1 (W.heap.size + 1) (.slice none 0 0) (.slice none 0 0) ∧ Below W.heap.size W W1 ∧ W1.heap.size = W.heap.size + 2) ⟨⟨(by (repeat' refine And.intro ?_ ?_) <;> (repeat (first | (with_reducible assumption) | (simp; done) | (with_reducible refine cell_drew_of ?_) | (with_reducible refine cell_drewN_of ?_) | (with_reducible refine cell_below_of (by with_reducible assumption) ?_) | ((with_reducible refine cell_new_of ?_ ?_) <;> (first | (with_reducible rfl) | (simp; done))) | ((with_reducible refine fro_new_of ?_) <;> (first | (with_reducible rfl) | (simp; done))) | (with_reducible refine cell_alloc_of _ ?_) | (with_reducible refine cell_set_of _ (by (first | exact Nat.le_refl _ | omega | (simp; done) | (simp; omega))) ?_) | (with_reducible refine fro_drew_of ?_) | (with_reducible refine fro_drewN_of ?_) | (with_reducible refine fro_below_of (by with_reducible assumption) (by (first | exact Nat.le_refl _ | omega | (simp; done) | (simp; omega))) ?_) | (with_reducible refine fro_alloc_of _ (by (first | exact Nat.le_refl _ | omega | (simp; done) | (simp; omega))) ?_) | (with_reducible refine fro_set_of _ ?_)))), (by (repeat' refine And.intro ?_ ?_) <;> (repeat (first | (with_reducible assumption) | (simp; done) | (with_reducible refine cell_drew_of ?_) | (with_reducible refine cell_drewN_of ?_) | (with_reducible refine cell_below_of (by with_reducible assumption) ?_) | ((with_reducible refine cell_new_of ?_ ?_) <;> (first | (with_reducible rfl) | (simp; done))) | ((with_reducible refine fro_new_of ?_) <;> (first | (with_reducible rfl) | (simp; done))) | (with_reducible refine cell_alloc_of _ ?_) | (with_reducible refine cell_set_of _ (by (first | exact Nat.le_refl _ | omega | (simp; done) | (simp; omega))) ?_) | (with_reducible refine fro_drew_of ?_) | (with_reducible refine fro_drewN_of ?_) | (with_reducible refine fro_below_of (by with_reducible assumption) (by (first | exact Nat.le_refl _ | omega | (simp; done) | (simp; omega))) ?_) | (with_reducible refine fro_alloc_of _ (by (first | exact Nat.le_refl _ | omega | (simp; done) | (simp; omega))) ?_) | (with_reducible refine fro_set_of _ ?_)))), (by (repeat' refine And.intro ?_ ?_) <;> (repeat (first | (with_reducible assumption) | (simp; done) | (with_reducible refine cell_drew_of ?_) | (with_reducible refine cell_drewN_of ?_) | (with_reducible refine cell_below_of (by with_reducible assumption) ?_) | ((with_reducible refine cell_new_of ?_ ?_) <;> (first | (with_reducible rfl) | (simp; done))) | ((with_reducible refine fro_new_of ?_) <;> (first | (with_reducible rfl) | (simp; done))) | (with_reducible refine cell_alloc_of _ ?_) | (with_reducible refine cell_set_of _ (by (first | exact Nat.le_refl _ | omega | (simp; done) | (simp; omega))) ?_) | (with_reducible refine fro_drew_of ?_) | (with_reducible refine fro_drewN_of ?_) | (with_reducible refine fro_below_of (by with_reducible assumption) (by (first | exact Nat.le_refl _ | omega | (simp; done) | (simp; omega))) ?_) | (with_reducible refine fro_alloc_of _ (by (first | exact Nat.le_refl _ | omega | (simp; done) | (simp; omega))) ?_) | (with_reducible refine fro_set_of _ ?_)))), (by (repeat' refine And.intro ?_ ?_) <;> (repeat (first | (with_reducible assumption) | (simp; done) | (with_reducible refine cell_drew_of ?_) | (with_reducible refine cell_drewN_of ?_) | (with_reducible refine cell_below_of (by with_reducible assumption) ?_) | ((with_reducible refine cell_new_of ?_ ?_) <;> (first | (with_reducible rfl) | (simp; done))) | ((with_reducible refine fro_new_of ?_) <;> (first | (with_reducible rfl) | (simp; done))) | (with_reducible refine cell_alloc_of _ ?_) | (with_reducible refine cell_set_of _ (by (first | exact Nat.le_refl _ | omega | (simp; done) | (simp; omega))) ?_) | (with_reducible refine fro_drew_of ?_) | (with_reducible refine fro_drewN_of ?_) | (with_reducible refine fro_below_of (by with_reducible assumption) (by (first | exact Nat.le_refl _ | omega | (simp; done) | (simp; omega))) ?_) | (with_reducible refine fro_alloc_of _ (by (first | exact Nat.le_refl _ | omega | (simp; done) | (simp; omega))) ?_) | (with_reducible refine fro_set_of _ ?_))))⟩, ⟨(by (repeat' refine And.intro ?_ ?_) <;> (repeat (first | (with_reducible assumption) | (simp; done) | (with_reducible refine cell_drew_of ?_) | (with_reducible refine cell_drewN_of ?_) | (with_reducible refine cell_below_of (by with_reducible assumption) ?_) | ((with_reducible refine cell_new_of ?_ ?_) <;> (first | (with_reducible rfl) | (simp; done))) | ((with_reducible refine fro_new_of ?_) <;> (first | (with_reducible rfl) | (simp; done))) | (with_reducible refine cell_alloc_of _ ?_) | (with_reducible refine cell_set_of _ (by (first | exact Nat.le_refl _ | omega | (simp; done) | (simp; omega))) ?_) | (with_reducible refine fro_drew_of ?_) | (with_reducible refine fro_drewN_of ?_) | (with_reducible refine fro_below_of (by with_reducible assumption) (by (first | exact Nat.le_refl _ | omega | (simp; done) | (simp; omega))) ?_) | (with_reducible refine fro_alloc_of _ (by (first | exact Nat.le_refl _ | omega | (simp; done) | (simp; omega))) ?_) | (with_reducible refine fro_set_of _ ?_)))), (by (repeat' refine And.intro ?_ ?_) <;> (repeat (first | (with_reducible assumption) | (simp; done) | (with_reducible refine cell_drew_of ?_) | (with_reducible refine cell_drewN_of ?_) | (with_reducible refine cell_below_of (by with_reducible assumption) ?_) | ((with_reducible refine cell_new_of ?_ ?_) <;> (first | (with_reducible rfl) | (simp; done))) | ((with_reducible refine fro_new_of ?_) <;> (first | (with_reducible rfl) | (simp; done))) | (with_reducible refine cell_alloc_of _ ?_) | (with_reducible refine cell_set_of _ (by (first | exact Nat.le_refl _ | omega | (simp; done) | (simp; omega))) ?_) | (with_reducible refine fro_drew_of ?_) | (with_reducible refine fro_drewN_of ?_) | (with_reducible refine fro_below_of (by with_reducible assumption) (by (first | exact Nat.le_refl _ | omega | (simp; done) | (simp; omega))) ?_) | (with_reducible refine fro_alloc_of _ (by (first | exact Nat.le_refl _ | omega | (simp; done) | (simp; omega))) ?_) | (with_reducible refine fro_set_of _ ?_)))), (by (repeat' refine And.intro ?_ ?_) <;> (repeat (first | (with_reducible assumption) | (simp; done) | (with_reducible refine cell_drew_of ?_) | (with_reducible refine cell_drewN_of ?_) | (with_reducible refine cell_below_of (by with_reducible assumption) ?_) | ((with_reducible refine cell_new_of ?_ ?_) <;> (first | (with_reducible rfl) | (simp; done))) | ((with_reducible refine fro_new_of ?_) <;> (first | (with_reducible rfl) | (simp; done))) | (with_reducible refine cell_alloc_of _ ?_) | (with_reducible refine cell_set_of _ (by (first | exact Nat.le_refl _ | omega | (simp; done) | (simp; omega))) ?_) | (with_reducible refine fro_drew_of ?_) | (with_reducible refine fro_drewN_of ?_) | (with_reducible refine fro_below_of (by with_reducible assumption) (by (first | exact Nat.le_refl _ | omega | (simp; done) | (simp; omega))) ?_) | (with_reducible refine fro_alloc_of _ (by (first | exact Nat.le_refl _ | omega | (simp; done) | (simp; omega))) ?_) | (with_reducible refine fro_set_of _ ?_)))), (by (repeat' refine And.intro ?_ ?_) <;> (repeat (first | (with_reducible assumption) | (simp; done) | (with_reducible refine cell_drew_of ?_) | (with_reducible refine cell_drewN_of ?_) | (with_reducible refine cell_below_of (by with_reducible assumption) ?_) | ((with_reducible refine cell_new_of ?_ ?_) <;> (first | (with_reducible rfl) | (simp; done))) | ((with_reducible refine fro_new_of ?_) <;> (first | (with_reducible rfl) | (simp; done))) | (with_reducible refine cell_alloc_of _ ?_) | (with_reducible refine cell_set_of _ (by (first | exact Nat.le_refl _ | omega | (simp; done) | (simp; omega))) ?_) | (with_reducible refine fro_drew_of ?_) | (with_reducible refine fro_drewN_of ?_) | (with_reducible refine fro_below_of (by with_reducible assumption) (by (first | exact Nat.le_refl _ | omega | (simp; done) | (simp; omega))) ?_) | (with_reducible refine fro_alloc_of _ (by (first | exact Nat.le_refl _ | omega | (simp; done) | (simp; omega))) ?_) | (with_reducible refine fro_set_of _ ?_))))⟩, (by repeat (first | (with_reducible exact Below.refl _ _) | (with_reducible assumption) | (with_reducible refine Below.drew ?_) | ((with_reducible refine below_alloc ?_ ?_ _); (· (first | exact Nat.le_refl _ | omega | (dsimp only; omega) | (simp only [World.size_alloc, World.size_drew, World.heap_drewN]; omega) | (simp; omega)))) | ((with_reducible refine below_set ?_ ?_ _); (· (first | exact Nat.le_refl _ | omega | (dsimp only; omega) | (simp only [World.size_alloc, World.size_drew, World.heap_drewN]; omega) | (simp; omega)))) | ((with_reducible refine below_via (by with_reducible assumption) ?_ ?_); (· (first | exact Nat.le_refl _ | omega | (dsimp only; omega) | (simp only [World.size_alloc, World.size_drew, World.heap_drewN]; omega) | (simp; omega)))))), by simp⟩ ?_
  rintro W1 ⟨hr1, ho1, hb1, hs1⟩
  have HC1 := Lib.hid (HC.out.later hb1)
  have HR1 := Lib.hid hr1
  have HO1 := Lib.hid ho1
  have HG1 := Lib.hid (gb_of_below cb hb1)
  have hs1a : W.heap.size + 2 ≤ W1.heap.size := by omega
  have HS1 := Lib.hid hs1
  clear hr1 ho1 hb1 hs1
  go_wp2_with fail
  refine (between_any B cb lA ln lc 1 3 (by omega) (by omega) (by omega) hln _ HC1.out).mono ?_
  rintro e w2 ⟨nk, rfl, hk1, hk2, hg2, hc2⟩
  obtain ⟨nt, rfl⟩ := Int.eq_ofNat_of_zero_le (show 0 ≤ nk by omega)
  have hnt : 1 ≤ nt ∧ nt ≤ 3 := by omega
  have HG2 := Lib.hid (gb_trans HG1.out hg2)
  have HC2 := Lib.hid hc2
  have HO2 := Lib.hid (HO1.out.same (hg2.block _ (by omega) (fun e => by injection e with e; omega)))
  have HR2 := Lib.hid (HR1.out.same (hg2.block _ (by omega) (fun e => by injection e with e; omega)))
  have hs2 : W.heap.size + 2 ≤ w2.heap.size := by have := hg2.size; omega
  clear hg2 hc2 hk1 hk2 HG1 HO1 HR1 HC1
  go_wp2_with fail
  go_loopw [15] (fun i wr => ∃ (k : Nat) (T : Nat → Nat → Int) (v : Value), k ≤ nt ∧ i = .int .i64 k ∧ Hid (V2 wr (W.heap.size + 1) v (.slice none 0 0)) ∧ Hid (V2 wr W.heap.size (.slice none 0 0) (.slice none 0 0)) ∧ Hid (wr.ownsRow (W.heap.size + 2) 60 5 v k (rowC trC T k)) ∧ Hid (∀ t, rowOk 14 (T t)) ∧ Hid (Chute wr B cb lA ln lc) ∧ Hid (W.grownBy wr (some cb)) ∧ W.heap.size + 2 ≤ wr.heap.size) (fun i _ => nt - (intOf i).toNat)
  case atStart => exact ⟨0, fun _ _ => 0, _, Nat.zero_le _, rfl, HO2, HR2, Lib.hid (World.ownsRow_nil _ _ _ _), Lib.hid (fun t m hm => ⟨Int.le_refl _, by show (0 : Int) ≤ 14; decide⟩), HC2, HG2, hs2⟩
  case round =>
    clear HO2 HR2 HC2 HG2 hs2
    obtain ⟨k, T, v, hk, rfl, ho, hr, hown, hT, hch, hg, hsz⟩ := hrel
    by_cases hlt : k < nt
    · have hk0 : (0 : Int) ≤ (k : Int) := by omega
      have hkn : (k : Int) < (nt : Int) := by omega
      obtain ⟨wo, rfl⟩ : ∃ wo, wo = wr := ⟨_, rfl⟩
      have c0 := ho.out.c0
      have f0 := ho.out.f0
      have hv1 := hown.out.lt
      go_upto_region 4 with fail
      go_region_law (first | (go_simp; go_at_call 22; refine (Piled_any B cb lA ln lc 14 (by omega) hln _ (by (first | omega | (simp only [World.size_alloc, World.size_drew]; omega) | (simp; done) | (simp; omega))) (hch.out.later (by repeat (first | (with_reducible exact Below.refl _ _) | (with_reducible assumption) | (with_reducible refine Below.drew ?_) | ((with_reducible refine below_alloc ?_ ?_ _); (· (first | exact Nat.le_refl _ | omega | (dsimp only; omega) | (simp only [World.size_alloc, World.size_drew, World.heap_drewN]; omega) | (simp; omega)))) | ((with_reducible refine below_set ?_ ?_ _); (· (first | exact Nat.le_refl _ | omega | (dsimp only; omega) | (simp only [World.size_alloc, World.size_drew, World.heap_drewN]; omega) | (simp; omega)))) | ((with_reducible refine below_via (by with_reducible assumption) ?_ ?_); (· (first | exact Nat.le_refl _ | omega | (dsimp only; omega) | (simp only [World.size_alloc, World.size_drew, World.heap_drewN]; omega) | (simp; omega)))))))).mono ?_; rintro e w3 ⟨X, rfl, hX, hg3, hc3⟩; have hz3 := hg3.size; (try simp only [World.size_drew, World.heap_drewN, World.size_alloc] at hz3); have s3 : w3.heap[W.heap.size + 1]? = wo.heap[W.heap.size + 1]? := hg3.block _ (by (first | omega | (simp only [World.size_alloc, World.size_drew]; omega) | (simp; done) | (simp; omega))) (fun e => by injection e with e; omega); have a3 := cell_same s3 c0; have b3 := fro_same s3 f0) | (refine step_append_lies _ (by rfl) (.tmp 18) (.tmp 21) 23 (by rfl) (W.heap.size + 2) 60 i0 (.agg #[.int .i64 0, .int .i64 0, .int .i64 0, .int .i64 0, .int .i64 0]) 5 40 trays_under hi hz0 hz1 hz2 (by rfl) (by decide) v k (rowC trC T k) (by rfl) ((own_keep (owns_later hown.out (show Below wo.heap.size wo _ from (by repeat (first | (with_reducible exact Below.refl _ _) | (with_reducible assumption) | (with_reducible refine Below.drew ?_) | ((with_reducible refine below_alloc ?_ ?_ _); (· (first | exact Nat.le_refl _ | omega | (dsimp only; omega) | (simp only [World.size_alloc, World.size_drew, World.heap_drewN]; omega) | (simp; omega)))) | ((with_reducible refine below_set ?_ ?_ _); (· (first | exact Nat.le_refl _ | omega | (dsimp only; omega) | (simp only [World.size_alloc, World.size_drew, World.heap_drewN]; omega) | (simp; omega)))) | ((with_reducible refine below_via (by with_reducible assumption) ?_ ?_); (· (first | exact Nat.le_refl _ | omega | (dsimp only; omega) | (simp only [World.size_alloc, World.size_drew, World.heap_drewN]; omega) | (simp; omega)))))))) hg3 (by omega)).alloc _) ⟨w3.heap.size, 0, none⟩ 1 1 (trC X) (by rfl) rfl (fun jj uu hjj => new_cells (w := w3) (t := 60) (cs := trC X) jj uu hjj) (trC_one X) (by omega) (by unfold maxLen; omega) (by omega) (by (first | omega | (simp only [World.size_alloc, World.size_drew]; omega) | (simp; done) | (simp; omega))) (w3.heap.size + 1) (by simp) ?_; intro g cap w6 hown6 hgr6 hat6 hlt6; have s6 : w6.heap[W.heap.size + 1]? = w3.heap[W.heap.size + 1]? := (hgr6.block _ (by (first | omega | (simp only [World.size_alloc, World.size_drew]; omega) | (simp; done) | (simp; omega))) (fun e => by have := (hv1 _ e.symm).1; omega)).trans (Below.heap_alloc _ _ _ (by omega)); have a6 := cell_same s6 a3; have b6 := fro_same s6 b3) | fail)
      all_goals
        have hg3' : wo.grownBy w3 (some cb) := gb_trans (gb_of_below cb (show Below wo.heap.size wo _ from (by repeat (first | (with_reducible exact Below.refl _ _) | (with_reducible assumption) | (with_reducible refine Below.drew ?_) | ((with_reducible refine below_alloc ?_ ?_ _); (· (first | exact Nat.le_refl _ | omega | (dsimp only; omega) | (simp only [World.size_alloc, World.size_drew, World.heap_drewN]; omega) | (simp; omega)))) | ((with_reducible refine below_set ?_ ?_ _); (· (first | exact Nat.le_refl _ | omega | (dsimp only; omega) | (simp only [World.size_alloc, World.size_drew, World.heap_drewN]; omega) | (simp; omega)))) | ((with_reducible refine below_via (by with_reducible assumption) ?_ ?_); (· (first | exact Nat.le_refl _ | omega | (dsimp only; omega) | (simp only [World.size_alloc, World.size_drew, World.heap_drewN]; omega) | (simp; omega)))))))) hg3
        have hkeep : ∀ i, i < W.heap.size + 2 → w6.heap[i]? = w3.heap[i]? := fun i hi => (hgr6.block i (by (first | omega | (simp only [World.size_alloc, World.size_drew]; omega) | (simp; done) | (simp; omega))) (fun e => by have := (hv1 i e.symm).1; omega)).trans (Below.heap_alloc _ _ _ (by omega))
        have HO6 : Hid (V2 (w6.setCell ⟨W.heap.size + 1, 0, none⟩ (.slice (some ⟨g, 0, none⟩) (k + 1) cap)) (W.heap.size + 1) (.slice (some ⟨g, 0, none⟩) (k + 1) cap) (.slice none 0 0)) := Lib.hid ((ho.out.same ((hkeep _ (by omega)).trans (hg3'.block _ (by omega) (fun e => by injection e with e; omega)))).set0 _)
        have HR6 : Hid (V2 (w6.setCell ⟨W.heap.size + 1, 0, none⟩ (.slice (some ⟨g, 0, none⟩) (k + 1) cap)) W.heap.size (.slice none 0 0) (.slice none 0 0)) := Lib.hid ((hr.out.same ((hkeep _ (by omega)).trans (hg3'.block _ (by omega) (fun e => by injection e with e; omega)))).same (set_heap _ (by dsimp only; omega)))
        have HN6 : Hid ((w6.setCell ⟨W.heap.size + 1, 0, none⟩ (.slice (some ⟨g, 0, none⟩) (k + 1) cap)).ownsRow (W.heap.size + 2) 60 5 (.slice (some ⟨g, 0, none⟩) (k + 1) cap) (k + 1) (rowC trC (fun j => if j = k then X else T j) (k + 1))) := Lib.hid (by
          rw [← rowC_put]
          exact owns_sm hown6 (fun g h1 h2 => set_heap _ (by dsimp only; omega)))
        have HT6 : Hid (∀ t, rowOk 14 (if t = k then X else T t)) := Lib.hid (fun t => by
          by_cases e : t = k
          · rw [if_pos e]; exact hX
          · rw [if_neg e]; exact hT.out t)
        have HC6 : Hid (Chute (w6.setCell ⟨W.heap.size + 1, 0, none⟩ (.slice (some ⟨g, 0, none⟩) (k + 1) cap)) B cb lA ln lc) := Lib.hid (hc3.keep (fun i hi => (set_heap _ (by dsimp only; omega)).trans (hkeep i (by omega))))
        have HG6 : Hid (W.grownBy (w6.setCell ⟨W.heap.size + 1, 0, none⟩ (.slice (some ⟨g, 0, none⟩) (k + 1) cap)) (some cb)) := Lib.hid (gb_cell (gb_own (gb_new (gb_trans hg.out hg3') _) hgr6 (fun g hgg => by have := (hv1 g hgg).1; omega)) (by dsimp only; omega) _)
        have hz6 : W.heap.size + 2 ≤ (w6.setCell ⟨W.heap.size + 1, 0, none⟩ (.slice (some ⟨g, 0, none⟩) (k + 1) cap)).heap.size := by have := hgr6.size; simp [World.setCell] at this ⊢; omega
        clear hown6 hgr6 hat6 hlt6 hkeep hg3 hg3' hc3 s3 a3 b3 s6 a6 b6 c0 f0
        go_wp2_with fail
        go_roundw
        case rel => exact ⟨k + 1, _, _, by omega, by go_num, HO6, HR6, HN6, HT6, HC6, HG6, hz6⟩
        case measure => simp [intOf]; omega
    · obtain rfl : k = nt := by omega
      have hge : ¬ (k : Int) < (k : Int) := by omega
      have hvT := hown.out.lt
      go_wp2_with fail
      refine (pull_any B cb lA ln lc 4 (by omega) hln _ hch.out).mono ?_
      rintro e w5 ⟨nk, rfl, hk1, hk2, hg5, hc5⟩
      obtain ⟨nh, rfl⟩ := Int.eq_ofNat_of_zero_le hk1
      have hnh : nh ≤ 3 := by omega
      have hs5 := hg5.size
      have HM5 : Hid (MdAt W w5 B cb lA ln lc w5.heap.size v (.slice none 0 0) k 0 T (fun _ => ⟨⟨fun _ => false, 0, 0, 0, 0, fun _ => 0⟩, none, 0⟩)) := Lib.hid ⟨ho.out.same (hg5.block _ (by omega) (fun e => by injection e with e; omega)), hr.out.same (hg5.block _ (by omega) (fun e => by injection e with e; omega)), own_keep hown.out hg5 (by omega), World.ownsRow_nil _ _ _ _, fun k hk => absurd hk (by omega), hc5, gb_trans hg.out hg5, Nat.le_refl _, ⟨by omega, hcb, hB⟩, fun g hgg => by have := (hvT g hgg).2; omega⟩
      have HV : Hid (∃ A c, v = .slice A k c) := Lib.hid (by obtain ⟨A, c, rfl, _⟩ := trRow_of hown.out; exact ⟨A, c, rfl⟩)
      clear hk1 hk2 hg5 hc5 ho hr hown hch hg hvT hs5 hsz
      go_wp2_with fail
      go_loopw [29] (fun i wr => ∃ (j : Nat) (G : Nat → HndA) (v' : Value), j ≤ nh ∧ i = .int .i64 j ∧ Hid (MdAt W wr B cb lA ln lc w5.heap.size v v' k j T G) ∧ Hid (∀ p, (G p).h.rng)) (fun i _ => nh - (intOf i).toNat)
      case atStart => exact ⟨0, _, _, Nat.zero_le _, rfl, HM5, Lib.hid (fun p => by unfold Hnd.rng; dsimp only; omega)⟩
      case round =>
        clear HM5
        obtain ⟨j, G, v', hj, rfl, HM, HGR⟩ := hrel
        by_cases hlt : j < nh
        · have hj0 : (0 : Int) ≤ (j : Int) := by omega
          have hjn : (j : Int) < (nh : Int) := by omega
          obtain ⟨wo, rfl⟩ : ∃ wo, wo = wr := ⟨_, rfl⟩
          have HCo := Lib.hid HM.out.c
          go_wp2_with fail
          refine (pull_any B cb lA ln lc 22 (by omega) hln _ HCo.out).mono ?_
          rintro e w6 ⟨st, rfl, hst1, hst2, hg6, hc6⟩
          have HM6 := Lib.hid (HM.out.chute hg6 hc6)
          have HC6 := Lib.hid hc6
          have hst3 : st < 22 := by omega
          clear hg6 hc6 HM HCo hst2
          go_wp2_with fail
          refine (pull_any B cb lA ln lc 5 (by omega) hln _ HC6.out).mono ?_
          rintro e w7 ⟨ti, rfl, hti1, hti2, hg7, hc7⟩
          have HM7 := Lib.hid (HM6.out.chute hg7 hc7)
          have HC7 := Lib.hid hc7
          have hti3 : ti < 5 := by omega
          clear hg7 hc7 HM6 HC6 hti2
          go_wp2_with fail
          refine (pull_any B cb lA ln lc 30 (by omega) hln _ HC7.out).mono ?_
          rintro e w8 ⟨sl, rfl, hsl1, hsl2, hg8, hc8⟩
          have HM8 := Lib.hid (HM7.out.chute hg8 hc8)
          have HC8 := Lib.hid hc8
          have hsl3 : sl < 30 := by omega
          have hz8 := HM8.out.z
          have hl8 := HM8.out.l
          clear hg8 hc8 HM7 HC7 hsl2
          go_upto_region 9 with fail
          refine wp_world (fun W9 => HuAt W9 w8.heap.size (fun _ => false) st ti sl (.slice none 0 0) ∧ Below w8.heap.size w8 W9 ∧ W9.heap.size = w8.heap.size + 1) ⟨⟨fun p hp => by
            have h5 : p = 0 ∨ p = 1 ∨ p = 2 ∨ p = 3 ∨ p = 4 := by omega
            rcases h5 with rfl | rfl | rfl | rfl | rfl <;> exact ⟨(by (repeat' refine And.intro ?_ ?_) <;> (repeat (first | (with_reducible assumption) | (simp; done) | (with_reducible refine cell_drew_of ?_) | (with_reducible refine cell_drewN_of ?_) | (with_reducible refine cell_below_of (by with_reducible assumption) ?_) | ((with_reducible refine cell_new_of ?_ ?_) <;> (first | (with_reducible rfl) | (simp; done))) | ((with_reducible refine fro_new_of ?_) <;> (first | (with_reducible rfl) | (simp; done))) | (with_reducible refine cell_alloc_of _ ?_) | (with_reducible refine cell_set_of _ (by (first | exact Nat.le_refl _ | omega | (simp; done) | (simp; omega))) ?_) | (with_reducible refine fro_drew_of ?_) | (with_reducible refine fro_drewN_of ?_) | (with_reducible refine fro_below_of (by with_reducible assumption) (by (first | exact Nat.le_refl _ | omega | (simp; done) | (simp; omega))) ?_) | (with_reducible refine fro_alloc_of _ (by (first | exact Nat.le_refl _ | omega | (simp; done) | (simp; omega))) ?_) | (with_reducible refine fro_set_of _ ?_)))), (by (repeat' refine And.intro ?_ ?_) <;> (repeat (first | (with_reducible assumption) | (simp; done) | (with_reducible refine cell_drew_of ?_) | (with_reducible refine cell_drewN_of ?_) | (with_reducible refine cell_below_of (by with_reducible assumption) ?_) | ((with_reducible refine cell_new_of ?_ ?_) <;> (first | (with_reducible rfl) | (simp; done))) | ((with_reducible refine fro_new_of ?_) <;> (first | (with_reducible rfl) | (simp; done))) | (with_reducible refine cell_alloc_of _ ?_) | (with_reducible refine cell_set_of _ (by (first | exact Nat.le_refl _ | omega | (simp; done) | (simp; omega))) ?_) | (with_reducible refine fro_drew_of ?_) | (with_reducible refine fro_drewN_of ?_) | (with_reducible refine fro_below_of (by with_reducible assumption) (by (first | exact Nat.le_refl _ | omega | (simp; done) | (simp; omega))) ?_) | (with_reducible refine fro_alloc_of _ (by (first | exact Nat.le_refl _ | omega | (simp; done) | (simp; omega))) ?_) | (with_reducible refine fro_set_of _ ?_))))⟩, (by (repeat' refine And.intro ?_ ?_) <;> (repeat (first | (with_reducible assumption) | (simp; done) | (with_reducible refine cell_drew_of ?_) | (with_reducible refine cell_drewN_of ?_) | (with_reducible refine cell_below_of (by with_reducible assumption) ?_) | ((with_reducible refine cell_new_of ?_ ?_) <;> (first | (with_reducible rfl) | (simp; done))) | ((with_reducible refine fro_new_of ?_) <;> (first | (with_reducible rfl) | (simp; done))) | (with_reducible refine cell_alloc_of _ ?_) | (with_reducible refine cell_set_of _ (by (first | exact Nat.le_refl _ | omega | (simp; done) | (simp; omega))) ?_) | (with_reducible refine fro_drew_of ?_) | (with_reducible refine fro_drewN_of ?_) | (with_reducible refine fro_below_of (by with_reducible assumption) (by (first | exact Nat.le_refl _ | omega | (simp; done) | (simp; omega))) ?_) | (with_reducible refine fro_alloc_of _ (by (first | exact Nat.le_refl _ | omega | (simp; done) | (simp; omega))) ?_) | (with_reducible refine fro_set_of _ ?_)))), (by (repeat' refine And.intro ?_ ?_) <;> (repeat (first | (with_reducible assumption) | (simp; done) | (with_reducible refine cell_drew_of ?_) | (with_reducible refine cell_drewN_of ?_) | (with_reducible refine cell_below_of (by with_reducible assumption) ?_) | ((with_reducible refine cell_new_of ?_ ?_) <;> (first | (with_reducible rfl) | (simp; done))) | ((with_reducible refine fro_new_of ?_) <;> (first | (with_reducible rfl) | (simp; done))) | (with_reducible refine cell_alloc_of _ ?_) | (with_reducible refine cell_set_of _ (by (first | exact Nat.le_refl _ | omega | (simp; done) | (simp; omega))) ?_) | (with_reducible refine fro_drew_of ?_) | (with_reducible refine fro_drewN_of ?_) | (with_reducible refine fro_below_of (by with_reducible assumption) (by (first | exact Nat.le_refl _ | omega | (simp; done) | (simp; omega))) ?_) | (with_reducible refine fro_alloc_of _ (by (first | exact Nat.le_refl _ | omega | (simp; done) | (simp; omega))) ?_) | (with_reducible refine fro_set_of _ ?_)))), (by (repeat' refine And.intro ?_ ?_) <;> (repeat (first | (with_reducible assumption) | (simp; done) | (with_reducible refine cell_drew_of ?_) | (with_reducible refine cell_drewN_of ?_) | (with_reducible refine cell_below_of (by with_reducible assumption) ?_) | ((with_reducible refine cell_new_of ?_ ?_) <;> (first | (with_reducible rfl) | (simp; done))) | ((with_reducible refine fro_new_of ?_) <;> (first | (with_reducible rfl) | (simp; done))) | (with_reducible refine cell_alloc_of _ ?_) | (with_reducible refine cell_set_of _ (by (first | exact Nat.le_refl _ | omega | (simp; done) | (simp; omega))) ?_) | (with_reducible refine fro_drew_of ?_) | (with_reducible refine fro_drewN_of ?_) | (with_reducible refine fro_below_of (by with_reducible assumption) (by (first | exact Nat.le_refl _ | omega | (simp; done) | (simp; omega))) ?_) | (with_reducible refine fro_alloc_of _ (by (first | exact Nat.le_refl _ | omega | (simp; done) | (simp; omega))) ?_) | (with_reducible refine fro_set_of _ ?_)))), (by (repeat' refine And.intro ?_ ?_) <;> (repeat (first | (with_reducible assumption) | (simp; done) | (with_reducible refine cell_drew_of ?_) | (with_reducible refine cell_drewN_of ?_) | (with_reducible refine cell_below_of (by with_reducible assumption) ?_) | ((with_reducible refine cell_new_of ?_ ?_) <;> (first | (with_reducible rfl) | (simp; done))) | ((with_reducible refine fro_new_of ?_) <;> (first | (with_reducible rfl) | (simp; done))) | (with_reducible refine cell_alloc_of _ ?_) | (with_reducible refine cell_set_of _ (by (first | exact Nat.le_refl _ | omega | (simp; done) | (simp; omega))) ?_) | (with_reducible refine fro_drew_of ?_) | (with_reducible refine fro_drewN_of ?_) | (with_reducible refine fro_below_of (by with_reducible assumption) (by (first | exact Nat.le_refl _ | omega | (simp; done) | (simp; omega))) ?_) | (with_reducible refine fro_alloc_of _ (by (first | exact Nat.le_refl _ | omega | (simp; done) | (simp; omega))) ?_) | (with_reducible refine fro_set_of _ ?_)))), (by (repeat' refine And.intro ?_ ?_) <;> (repeat (first | (with_reducible assumption) | (simp; done) | (with_reducible refine cell_drew_of ?_) | (with_reducible refine cell_drewN_of ?_) | (with_reducible refine cell_below_of (by with_reducible assumption) ?_) | ((with_reducible refine cell_new_of ?_ ?_) <;> (first | (with_reducible rfl) | (simp; done))) | ((with_reducible refine fro_new_of ?_) <;> (first | (with_reducible rfl) | (simp; done))) | (with_reducible refine cell_alloc_of _ ?_) | (with_reducible refine cell_set_of _ (by (first | exact Nat.le_refl _ | omega | (simp; done) | (simp; omega))) ?_) | (with_reducible refine fro_drew_of ?_) | (with_reducible refine fro_drewN_of ?_) | (with_reducible refine fro_below_of (by with_reducible assumption) (by (first | exact Nat.le_refl _ | omega | (simp; done) | (simp; omega))) ?_) | (with_reducible refine fro_alloc_of _ (by (first | exact Nat.le_refl _ | omega | (simp; done) | (simp; omega))) ?_) | (with_reducible refine fro_set_of _ ?_))))⟩, (by repeat (first | (with_reducible exact Below.refl _ _) | (with_reducible assumption) | (with_reducible refine Below.drew ?_) | ((with_reducible refine below_alloc ?_ ?_ _); (· (first | exact Nat.le_refl _ | omega | (dsimp only; omega) | (simp only [World.size_alloc, World.size_drew, World.heap_drewN]; omega) | (simp; omega)))) | ((with_reducible refine below_set ?_ ?_ _); (· (first | exact Nat.le_refl _ | omega | (dsimp only; omega) | (simp only [World.size_alloc, World.size_drew, World.heap_drewN]; omega) | (simp; omega)))) | ((with_reducible refine below_via (by with_reducible assumption) ?_ ?_); (· (first | exact Nat.le_refl _ | omega | (dsimp only; omega) | (simp only [World.size_alloc, World.size_drew, World.heap_drewN]; omega) | (simp; omega)))))), by simp⟩ ?_
          rintro W9 ⟨hu9, hb9, hs9⟩
          have HU9 := Lib.hid hu9
          have HG9 := Lib.hid (gb_of_below cb hb9)
          have HC9 := Lib.hid (HC8.out.later hb9)
          have hs9' : w8.heap.size + 1 ≤ W9.heap.size := by omega
          clear hu9 hb9 hs9 HC8
          go_wp2_with fail
          go_loopw [38] (fun i wy => ∃ (m : Nat) (tk : Nat → Bool), m ≤ 5 ∧ i = .int .i64 m ∧ Hid (HuAt wy w8.heap.size tk st ti sl (.slice none 0 0)) ∧ Hid (Chute wy B cb lA ln lc) ∧ Hid (w8.grownBy wy (some cb)) ∧ w8.heap.size + 1 ≤ wy.heap.size) (fun i _ => 5 - (intOf i).toNat)
          case atStart => exact ⟨0, _, by omega, rfl, HU9, HC9, HG9, hs9'⟩
          case round =>
            clear HU9 HC9 HG9 hs9'
            obtain ⟨m, tk, hm, rfl, HU, HC, HG, hsy⟩ := hrel
            by_cases hm5 : m < 5
            · have hmi : (m : Int) < 5 := by omega
              have hm0 : (0 : Int) ≤ (m : Int) := by omega
              have em : IntKind.i64.wrap ((m : Int) + 1) = (m : Int) + 1 := IntWalk.i64_in _ (by omega)
              go_wp2_with fail
              refine (chin_any B cb lA ln lc 2 (by omega) hln _ HC.out).mono ?_
              rintro e w10 ⟨b, rfl, hg10, hc10⟩
              have hu10 := HU.out.same (hg10.block _ (by omega) (fun e => by injection e with e; omega))
              have HU10 := Lib.hid (hu10.tk hm5 b)
              have HC10 := Lib.hid (hc10.keep (w' := w10.setCell ⟨w8.heap.size, m, none⟩ (.bool b)) (fun i hi => set_heap _ (by dsimp only; omega)))
              have HG10 := Lib.hid (gb_cell (gb_trans HG.out hg10) (a := ⟨w8.heap.size, m, none⟩) (by dsimp only; omega) (.bool b))
              have hs10 : w8.heap.size + 1 ≤ (w10.setCell ⟨w8.heap.size, m, none⟩ (.bool b)).heap.size := by have := hg10.size; simp [World.setCell]; omega
              obtain ⟨d0, d1⟩ := hu10.t m hm5
              clear hg10 hc10 hu10 HU HC HG hsy
              go_wp2_with fail
              go_roundw
              case rel => exact ⟨m + 1, _, by omega, by go_num, HU10, HC10, HG10, hs10⟩
              case measure => simp [intOf]; omega
            · obtain rfl : m = 5 := by omega
              have o0 : wr.cell? ⟨W.heap.size + 1, 0, none⟩ = some v := cell_same (HG.out.block _ (by omega) (fun e => by injection e with e; omega)) HM8.out.o.c0
              obtain ⟨tA, tc, rfl⟩ := HV.out
              obtain ⟨wy, rfl⟩ : ∃ wy, wy = wr := ⟨_, rfl⟩
              go_wp2_with fail
              clear o0
              go_loopw [50] (fun i wx => ∃ (t : Nat) (n : Nat) (R : Nat → Int) (rv : Value), t ≤ k ∧ i = .int .i64 t ∧ n ≤ t ∧ Hid (∀ q, q < n → 0 ≤ R q ∧ R q < (t : Int)) ∧ Hid (∀ q, q + 1 < n → R q < R (q + 1)) ∧ Hid (HuAt wx w8.heap.size tk st ti sl rv) ∧ Hid (wx.ownsRow (w8.heap.size + 1) 3 1 rv n (numCells R n)) ∧ Hid (Chute wx B cb lA ln lc) ∧ Hid (w8.grownBy wx (some cb)) ∧ w8.heap.size + 1 ≤ wx.heap.size) (fun i _ => k - (intOf i).toNat)
              case atStart => exact ⟨0, 0, fun _ => 0, _, Nat.zero_le _, rfl, Nat.le_refl _, Lib.hid (fun q hq => absurd hq (by omega)), Lib.hid (fun q hq => absurd hq (by omega)), HU, Lib.hid (World.ownsRow_nil _ _ _ _), HC, HG, hsy⟩
              case round =>
                clear HU HC HG hsy
                obtain ⟨t, n, R, rv, ht, rfl, hnt', HRB, HRU, HU, HN, HC, HG, hsx⟩ := hrel
                by_cases htk : t < k
                · have hti0 : (0 : Int) ≤ (t : Int) := by omega
                  have htik : (t : Int) < (k : Int) := by omega
                  go_wp2_with fail
                  refine (chin_any B cb lA ln lc 5 (by omega) hln _ HC.out).mono ?_
                  rintro e w11 ⟨b, rfl, hg11, hc11⟩
                  have HU11 := Lib.hid (HU.out.same (hg11.block _ (by omega) (fun e => by injection e with e; omega)))
                  have HC11 := Lib.hid hc11
                  have HG11 := Lib.hid (gb_trans HG.out hg11)
                  have HN11 := Lib.hid (own_keep HN.out hg11 (by omega))
                  have hs11 : w8.heap.size + 1 ≤ w11.heap.size := by have := hg11.size; omega
                  clear hg11 hc11 HU HC HG HN hsx
                  cases b with
                  | false =>
                    go_wp2_with fail
                    (refine ⟨?_, ?measure⟩; (repeat apply Exists.intro); refine ⟨?rel, rfl⟩)
                    case rel => exact ⟨t + 1, n, R, rv, by omega, by go_num, by omega, Lib.hid (fun q hq => by have := HRB.out q hq; omega), HRU, HU11, HN11, HC11, HG11, hs11⟩
                    case measure => simp [intOf]; omega
                  | true =>
                    have d8 := HU11.out.c8
                    have g8 := HU11.out.f8
                    have hv1 := HN11.out.lt
                    go_wp2_with (at_builtin; refine wpList_append_lies _ rfl (.tmp 56) (.tmp 58) 38 rfl (w8.heap.size + 1) 3 n0 (.int .i64 0) 1 8 ints_under ni nz0 nz1 nz2 rfl (by decide) rv n (numCells R n) rfl (HN11.out.alloc _) ⟨w11.heap.size, 0, none⟩ 1 1 [.int .i64 (t : Int)] rfl rfl (new_cells (cs := [.int .i64 (t : Int)])) (by intro u hu; simp only [List.mem_cons, List.not_mem_nil, or_false] at hu; subst hu; rfl) (by omega) (by unfold maxLen; omega) (by omega) (by simp; omega) (w11.heap.size + 1) (by simp) ?_; intro g cap w12 hown12 hgr12 hat12 hlt12; have s12 : w12.heap[w8.heap.size]? = w11.heap[w8.heap.size]? := (hgr12.block _ (by simp; omega) (fun e => by have := (hv1 _ e.symm).1; omega)).trans (Below.heap_alloc _ _ _ (by omega)); have a12 := cell_same s12 d8; have b12 := fro_same s12 g8)
                    have HU12 : Hid (HuAt (w12.setCell ⟨w8.heap.size, 8, none⟩ (.slice (some ⟨g, 0, none⟩) (n + 1) cap)) w8.heap.size tk st ti sl (.slice (some ⟨g, 0, none⟩) (n + 1) cap)) := Lib.hid ((HU11.out.same s12).rs _)
                    have HN12 : Hid ((w12.setCell ⟨w8.heap.size, 8, none⟩ (.slice (some ⟨g, 0, none⟩) (n + 1) cap)).ownsRow (w8.heap.size + 1) 3 1 (.slice (some ⟨g, 0, none⟩) (n + 1) cap) (n + 1) (numCells (fun q => if q = n then (t : Int) else R q) (n + 1))) := Lib.hid (by
                      rw [← numCells_put]
                      exact owns_sm hown12 (fun g h1 h2 => set_heap _ (by dsimp only; omega)))
                    have HC12 : Hid (Chute (w12.setCell ⟨w8.heap.size, 8, none⟩ (.slice (some ⟨g, 0, none⟩) (n + 1) cap)) B cb lA ln lc) := Lib.hid (HC11.out.keep (fun i hi => (set_heap _ (by dsimp only; omega)).trans ((hgr12.block i (by simp; omega) (fun e => by have := (hv1 _ e.symm).1; omega)).trans (Below.heap_alloc _ _ _ (by omega)))))
                    have HG12 : Hid (w8.grownBy (w12.setCell ⟨w8.heap.size, 8, none⟩ (.slice (some ⟨g, 0, none⟩) (n + 1) cap)) (some cb)) := Lib.hid (gb_cell (gb_own (gb_new HG11.out _) hgr12 (fun g hgg => by have := (hv1 g hgg).1; omega)) (by dsimp only; omega) _)
                    have hs12 : w8.heap.size + 1 ≤ (w12.setCell ⟨w8.heap.size, 8, none⟩ (.slice (some ⟨g, 0, none⟩) (n + 1) cap)).heap.size := by have := hgr12.size; simp [World.setCell] at this ⊢; omega
                    clear hown12 hgr12 hat12 hlt12 s12 a12 b12 d8 g8 HU11 HC11 HG11 HN11 hv1
                    go_wp2_with fail
                    (refine ⟨?_, ?measure⟩; (repeat apply Exists.intro); refine ⟨?rel, rfl⟩)
                    case rel => exact ⟨t + 1, n + 1, _, _, by omega, by go_num, by omega, Lib.hid (fun q hq => by
                      by_cases e : q = n
                      · rw [if_pos e]; omega
                      · rw [if_neg e]; have := HRB.out q (by omega); omega), Lib.hid (fun q hq => by
                      rw [if_neg (show ¬ q = n by omega)]
                      by_cases e : q + 1 = n
                      · rw [if_pos e]; exact (HRB.out q (by omega)).2
                      · rw [if_neg e]; exact HRU.out q (by omega)), HU12, HN12, HC12, HG12, hs12⟩
                    case measure => simp [intOf]; omega
                · obtain rfl : t = k := by omega
                  have htge : ¬ (t : Int) < (t : Int) := by omega
                  obtain ⟨rA, rc, rfl, hrow, hrc⟩ := ownInt_of HN.out
                  obtain ⟨wx, rfl⟩ : ∃ wx, wx = wr := ⟨_, rfl⟩
                  have HMx := Lib.hid (HM8.out.chute HG.out HC.out)
                  obtain ⟨X, hX⟩ : ∃ X : HndA, X = ⟨⟨tk, st, ti, sl, n, R⟩, rA, rc⟩ := ⟨_, rfl⟩
                  have HX := Lib.hid hX
                  have hC : hdC X = [.bool (tk 0), .bool (tk 1), .bool (tk 2), .bool (tk 3), .bool (tk 4), .int .i64 st, .int .i64 ti, .int .i64 sl, .slice rA n rc] := by rw [hX]; rfl
                  have HCX := Lib.hid hC
                  have HRW := Lib.hid hrow
                  have o1 := HMx.out.o.c1
                  have of1 := HMx.out.o.f1
                  have d0 := (HU.out.t 0 (by omega)).1
                  have d1 := (HU.out.t 1 (by omega)).1
                  have d2 := (HU.out.t 2 (by omega)).1
                  have d3 := (HU.out.t 3 (by omega)).1
                  have d4 := (HU.out.t 4 (by omega)).1
                  have d5 := HU.out.c5
                  have d6 := HU.out.c6
                  have d7 := HU.out.c7
                  have d8 := HU.out.c8
                  have hv1 := HMx.out.h.lt
                  have hv8 := Lib.hid HM8.out.h.lt
                  clear hX hC hrow
                  go_wp2_with (at_builtin; refine wpList_append_lies _ rfl (.tmp 63) (.tmp 65) 24 rfl w5.heap.size 40 j0 (.agg #[.bool false, .bool false, .bool false, .bool false, .bool false, .int .i64 0, .int .i64 0, .int .i64 0, .slice none 0 0]) 9 56 hands_under ji jz0 jz1 jz2 rfl (by decide) v' j (rowC hdC G j) rfl (HMx.out.h.alloc _) ⟨wx.heap.size, 0, none⟩ 1 1 [.bool (tk 0), .bool (tk 1), .bool (tk 2), .bool (tk 3), .bool (tk 4), .int .i64 st, .int .i64 ti, .int .i64 sl, .slice rA n rc] rfl rfl (new_cells (cs := [.bool (tk 0), .bool (tk 1), .bool (tk 2), .bool (tk 3), .bool (tk 4), .int .i64 st, .int .i64 ti, .int .i64 sl, .slice rA n rc])) (by rw [← HCX.out]; exact hdC_one X) (by omega) (by unfold maxLen; omega) (by omega) (by simp; omega) (wx.heap.size + 1) (by simp) ?_; intro g cap w13 hown13 hgr13 hat13 hlt13; have s13 : w13.heap[W.heap.size + 1]? = wx.heap[W.heap.size + 1]? := (hgr13.block _ (by simp; omega) (fun e => by have := (hv1 _ e.symm).1; omega)).trans (Below.heap_alloc _ _ _ (by omega)); have a13 := cell_same s13 o1; have b13 := fro_same s13 of1)
                  have hkeep : ∀ i, i < w5.heap.size → w13.heap[i]? = wx.heap[i]? := fun i hi => (hgr13.block i (by simp; omega) (fun e => by have := (hv1 i e.symm).1; omega)).trans (Below.heap_alloc _ _ _ (by omega))
                  have HMF : Hid (MdAt W (w13.setCell ⟨W.heap.size + 1, 1, none⟩ (.slice (some ⟨g, 0, none⟩) (j + 1) cap)) B cb lA ln lc w5.heap.size (.slice tA t tc) (.slice (some ⟨g, 0, none⟩) (j + 1) cap) t (j + 1) T (fun p => if p = j then X else G p)) := Lib.hid (by
                    have hx := HMx.out
                    refine ⟨(hx.o.same (hkeep _ (by omega))).set1 _, (hx.r.same (hkeep _ (by omega))).same (set_heap _ (by dsimp only; omega)), owns_sm hx.t (fun g h1 h2 => (set_heap _ (by dsimp only; omega)).trans (hkeep g (hx.q g h2))), ?_, ?_, hx.c.keep (fun i hi => (set_heap _ (by dsimp only; omega)).trans (hkeep i (by omega))), gb_cell (gb_own (gb_new hx.g _) hgr13 (fun g hgg => by have := (hv1 g hgg).1; omega)) (by dsimp only; omega) _, by have := hgr13.size; simp [World.setCell] at this ⊢; omega, hx.l, hx.q⟩
                    · rw [← rowC_put, HCX.out]
                      exact owns_sm hown13 (fun g h1 h2 => set_heap _ (by dsimp only; omega))
                    · refine RsAt.keep (RsAt.put hx.s X (by rw [HX.out]; exact hnt') (by rw [HX.out]; exact HRB.out) (by rw [HX.out]; exact HRU.out) (by
                        rw [HX.out]
                        intro q hq
                        obtain ⟨b, e, hb, hc, _⟩ := HRW.out q hq
                        exact ⟨b, e, by omega, fun e => by have := (hv8.out b e).2; omega, hc⟩)) (fun b h1 h2 h3 => ⟨fun e => ?_, (set_heap _ (by dsimp only; omega)).trans ((hgr13.block b (by simp; omega) (fun e => h3 e.symm)).trans (Below.heap_alloc _ _ _ h2))⟩)
                      injection e with e
                      rcases hat13 with h | h
                      · exact h3 (h.trans (congrArg some e))
                      · dsimp only at e; omega)
                  have HGF : Hid (∀ p, (if p = j then X else G p).h.rng) := Lib.hid (fun p => by
                    by_cases e : p = j
                    · rw [if_pos e, HX.out]; unfold Hnd.rng; dsimp only; omega
                    · rw [if_neg e]; exact HGR.out p)
                  clear hown13 hgr13 hat13 hlt13 s13 a13 b13 hkeep o1 of1 d0 d1 d2 d3 d4 d5 d6 d7 d8 hv1
                  go_wp2_with fail
                  refine ⟨?_, ?measure⟩
                  case measure => simp [intOf]; omega
                  exact ⟨j + 1, _, _, by omega, by go_num, HMF, HGF⟩
        · obtain rfl : j = nh := by omega
          have hjge : ¬ (j : Int) < (j : Int) := by omega
          obtain ⟨tA, tc, rfl, -, htc⟩ := trRow_of HM.out.t
          obtain ⟨hA, hc, rfl, -, hhc⟩ := hdRow_of HM.out.h
          have c0 := HM.out.o.c0
          have c1 := HM.out.o.c1
          have r0 := HM.out.r.c0
          have r1 := HM.out.r.c1
          have f0 := HM.out.r.f0
          have f1 := HM.out.r.f1
          have hl := HM.out.l
          go_wp2_with fail
          refine bodyPost_ret (v := beV tA k tc hA j hc) ?_ rfl ⟨k, j, T, G, tA, hA, tc, hc, rfl, ?_, by omega, by omega, ?_, ?_, ?_, htc, hhc⟩
          · exact (by simp (maxDischargeDepth := 9) [results, Tryz.results5, go_sem, r0, r1])
          · refine ⟨hnt.1, by omega, by omega, fun p m hm => by have := hT.out p m hm; omega, HGR.out, fun p hp => by have := (HM.out.s p hp).1; omega, fun p hp q hq => (HM.out.s p hp).2.1 q hq, fun p hp q hq => (HM.out.s p hp).2.2.1 q hq⟩
          · exact (md_end HM.out (fun i hi => (set_heap _ (by dsimp only; omega)).trans (set_heap _ (by dsimp only; omega))) (by simp [World.setCell]) ⟨rfl, rfl, rfl⟩).1
          · exact (md_end HM.out (fun i hi => (set_heap _ (by dsimp only; omega)).trans (set_heap _ (by dsimp only; omega))) (by simp [World.setCell]) ⟨rfl, rfl, rfl⟩).2.1
          · exact (md_end HM.out (fun i hi => (set_heap _ (by dsimp only; omega)).trans (set_heap _ (by dsimp only; omega))) (by simp [World.setCell]) ⟨rfl, rfl, rfl⟩).2.2
end Go.Proofs.YtmbkngfcbgbeiaaGreat
