/- slices.Contains of numbers; the force of a hand; the hands' numbers; belt.opened. -/
import Derived.Test.YtmbkngfcbgbeiaaGreatEc
import Derived.Test.YtmbkngfcbgbeiaaGreatEg
import Derived.Test.YtmbkngfcbgbeiaaGreatWx
set_option linter.unusedSimpArgs false
set_option linter.unusedVariables false
namespace Go.Proofs.YtmbkngfcbgbeiaaGreat
open Go.RowKit Go.Shelf

theorem anyN_false {f : Nat → Bool} : ∀ {n : Nat}, anyN f n = false ↔ ∀ k, k < n → f k = false
  | 0 => by simp [anyN]
  | n + 1 => by
    simp only [anyN, Bool.or_eq_false_iff, anyN_false (n := n)]
    constructor
    · intro h k hk
      by_cases e : k = n
      · subst e; exact h.2
      · exact h.1 k (by omega)
    · intro h
      exact ⟨fun k hk => h k (by omega), h n (by omega)⟩
theorem idx_any (f : Nat → Bool) (n : Nat) : decide (0 ≤ idxFrom f n 0) = anyN f n := by
  cases h : anyN f n with
  | false => exact (idx_all f n 0).2 (fun k hk => by rw [Nat.zero_add]; exact anyN_false.1 h k hk)
  | true =>
    cases h2 : decide (0 ≤ idxFrom f n 0) with
    | true => rfl
    | false =>
      have h3 := (idx_all f n 0).1 h2
      have : anyN f n = false := anyN_false.2 (fun k hk => by have := h3 k hk; rwa [Nat.zero_add] at this)
      rw [this] at h
      cases h

set_option maxRecDepth 100000 in
set_option maxHeartbeats 1000000 in
theorem bindex_any (A : Option Addr) (n c : Nat) (X : Nat → Int) (v : Int) (W : World) (hl : IntRow W W.heap.size A n X) (hn : n ≤ 1000) :
    Calls Tryz.prog 122 #[.slice A n c, .int .i64 v] W fun e W' => e = .returned (.int .i64 (idxFrom (fun k => decide (X k = v)) n 0)) ∧ Below W.heap.size W W' := by
  have HL := Lib.hid hl
  clear hl
  go_enter Tryz.func122, Tryz.ntmps122
  go_wp2_with fail
  go_loopw [8] (fun i wr => ∃ k : Nat, k ≤ n ∧ i = .int .i64 k ∧ Hid (idxFrom (fun k => decide (X k = v)) n 0 = idxFrom (fun k => decide (X k = v)) (n - k) k) ∧ Hid (Below W.heap.size W wr)) (fun i _ => n - (intOf i).toNat)
  case atStart => exact ⟨0, Nat.zero_le _, rfl, Lib.hid rfl, Lib.hid (Below.refl _ _)⟩
  case round =>
    obtain ⟨k, hk, rfl, h0, HB⟩ := hrel
    by_cases hlt : k < n
    · have hkn : (k : Int) < (n : Int) := by omega
      have hk0 : (0 : Int) ≤ (k : Int) := by omega
      have ek : IntKind.i64.wrap ((k : Int) + 1) = (k : Int) + 1 := IntWalk.i64_in _ (by omega)
      obtain ⟨b, o, rfl, hbl, c0⟩ := (HL.out.below HB.out) k hlt
      by_cases hh : X k = v
      · have hq : (v == X k) = true := by simp [hh]
        have HY := Lib.hid (idx_yes hlt h0.out (by simpa using hh))
        clear hh
        go_wp2_with fail
        go_ret
        exact ⟨by rw [HY.out]; rfl, HB.out⟩
      · have hq : (v == X k) = false := by simp; exact fun e => hh e.symm
        have HY := Lib.hid (idx_no hlt h0.out (by simpa using hh))
        clear hh
        go_wp2_with fail
        go_roundw
        case rel => exact ⟨k + 1, by omega, by go_num, HY, HB⟩
        case measure => simp [intOf]; omega
    · obtain rfl : k = n := by omega
      have hge : ¬ (k : Int) < (k : Int) := by omega
      have HY := Lib.hid (idx_end h0.out)
      go_wp2_with fail
      go_ret
      exact ⟨by rw [HY.out]; rfl, HB.out⟩

set_option maxRecDepth 100000 in
set_option maxHeartbeats 1000000 in
theorem bcontains_any (A : Option Addr) (n c : Nat) (X : Nat → Int) (v : Int) (W : World) (hl : IntRow W W.heap.size A n X) (hn : n ≤ 1000) :
    Calls Tryz.prog 100 #[.slice A n c, .int .i64 v] W fun e W' => e = .returned (.bool (anyN (fun k => decide (X k = v)) n)) ∧ Below W.heap.size W W' := by
  have HL := Lib.hid hl
  have HI := Lib.hid (idx_any (fun k => decide (X k = v)) n)
  clear hl
  go_enter Tryz.func100, Tryz.ntmps100
  go_wp2_with fail
  refine (bindex_any A n c X v _ HL.out hn).mono ?_
  rintro e w1 ⟨rfl, hb1⟩
  have HB := Lib.hid hb1
  clear hb1
  go_wp2_with fail
  go_ret
  exact ⟨by rw [← HI.out]; rfl, HB.out⟩

/-- a belt at work -/
structure DkAt (w : World) (B db mb n : Nat) (tA : Option Addr) (nt tc : Nat) (T : Nat → Nat → Int) (hA : Option Addr) (nh hc : Nat) (G : Nat → HndA) : Prop where
  c0 : w.cell? ⟨db, 0, none⟩ = some (.slice tA nt tc)
  c1 : w.cell? ⟨db, 1, none⟩ = some (.slice hA nh hc)
  c2 : w.cell? ⟨db, 2, none⟩ = some (.map (some mb))
  r : BeltRow w B tA nt T hA nh G
  m : ∃ g, ForceAt w mb n g ∧ ∀ (k t : Nat) v, k < nh → g k t = some v → v = (G k).h.force t
  hd : B ≤ db
  hm : B ≤ mb
  hne : mb ≠ db
theorem DkAt.gr {w w' : World} {B db mb n n' : Nat} {tA : Option Addr} {nt tc : Nat} {T : Nat → Nat → Int} {hA : Option Addr} {nh hc : Nat} {G : Nat → HndA} (h : DkAt w B db mb n tA nt tc T hA nh hc G) (hg : w.grownBy w' (some mb)) (hm : ∃ g, ForceAt w' mb n' g ∧ ∀ (k t : Nat) v, k < nh → g k t = some v → v = (G k).h.force t) : DkAt w' B db mb n' tA nt tc T hA nh hc G := by
  have hd := hg.block db (World.block_lt_of_cell? w _ h.c0) (fun e => by injection e with e; exact h.hne e.symm)
  exact ⟨cell_same hd h.c0, cell_same hd h.c1, cell_same hd h.c2, h.r.later (gb_below hg h.r.lt h.hm), hm, h.hd, h.hm, h.hne⟩
theorem DkAt.keep {w w' : World} {B db mb n : Nat} {tA : Option Addr} {nt tc : Nat} {T : Nat → Nat → Int} {hA : Option Addr} {nh hc : Nat} {G : Nat → HndA} (h : DkAt w B db mb n tA nt tc T hA nh hc G) (hk : ∀ b, b < w.heap.size → (b < B ∨ b = db ∨ b = mb) → w'.heap[b]? = w.heap[b]?) (hb : Below B w w') : DkAt w' B db mb n tA nt tc T hA nh hc G := by
  obtain ⟨g, hf, hg⟩ := h.m
  have hd := hk db (World.block_lt_of_cell? w _ h.c0) (.inr (.inl rfl))
  exact ⟨cell_same hd h.c0, cell_same hd h.c1, cell_same hd h.c2, h.r.later hb, ⟨g, hf.same (hk mb hf.lt (.inr (.inr rfl))), hg⟩, h.hd, h.hm, h.hne⟩
theorem ForceAt.mono {w : World} {b n m : Nat} {g : Int → Int → Option Int} (h : ForceAt w b n g) (hn : n ≤ m) : ForceAt w b m g := by
  obtain ⟨D, h1, h2, h3⟩ := h
  exact ⟨D, h1.mono hn, h2, h3⟩
theorem DkAt.up {w : World} {B db mb n m : Nat} {tA : Option Addr} {nt tc : Nat} {T : Nat → Nat → Int} {hA : Option Addr} {nh hc : Nat} {G : Nat → HndA} (h : DkAt w B db mb n tA nt tc T hA nh hc G) (hn : n ≤ m) : DkAt w B db mb m tA nt tc T hA nh hc G := by
  obtain ⟨g, hf, hg⟩ := h.m
  exact ⟨h.c0, h.c1, h.c2, h.r, ⟨g, hf.mono hn, hg⟩, h.hd, h.hm, h.hne⟩
theorem DkAt.later {w w' : World} {B db mb n : Nat} {tA : Option Addr} {nt tc : Nat} {T : Nat → Nat → Int} {hA : Option Addr} {nh hc : Nat} {G : Nat → HndA} (h : DkAt w B db mb n tA nt tc T hA nh hc G) (hb : Below w.heap.size w w') : DkAt w' B db mb n tA nt tc T hA nh hc G :=
  h.keep (fun b h1 _ => hb.block b h1) (hb.mono h.r.lt)

set_option maxRecDepth 100000 in
set_option maxHeartbeats 2000000 in
theorem bopened_any (nt nh : Nat) (T : Nat → Nat → Int) (G : Nat → HndA) (hok : BeltOk nt nh T G) (B : Nat) (tA hA : Option Addr) (tc hc : Nat) (W : World) (hr : BeltRow W B tA nt T hA nh G) :
    Calls Tryz.prog 31 #[beV tA nt tc hA nh hc] W fun e W' => ∃ db mb, e = .returned (.tuple #[.pointer (some ⟨db, 0, none⟩), .int .i64 0]) ∧ Below W.heap.size W W' ∧ W.heap.size ≤ db ∧ W.heap.size ≤ mb ∧ DkAt W' W.heap.size db mb 0 tA nt tc T hA nh hc G := by
  have HR := Lib.hid hr.up
  clear hr
  go_enter Tryz.func31, Tryz.ntmps31
  go_wp2_with fail
  have hba : Below W.heap.size W (W.alloc (.cells #[.slice tA nt tc, .slice hA nh hc] 26)) := (by repeat (first | (with_reducible exact Below.refl _ _) | (with_reducible refine Below.drew ?_) | (with_reducible refine below_drewN ?_ _) | ((with_reducible refine below_alloc ?_ ?_ _); · (first | exact Nat.le_refl _ | omega | (simp; done) | (simp; omega) | (simp at *; omega))) | ((with_reducible refine below_set ?_ ?_ _); · (first | exact Nat.le_refl _ | omega | (simp; done) | (simp; omega) | (simp at *; omega))) | ((with_reducible refine below_via (by with_reducible assumption) ?_ ?_); · (first | exact Nat.le_refl _ | omega | (simp; done) | (simp; omega) | (simp at *; omega)))))
  have HR1 := Lib.hid (HR.out.later hba)
  refine (bcheck_any nt nh T G hok _ tA hA tc hc _ HR1.out).mono ?_
  rintro e w1 ⟨rfl, hb1⟩
  have q0 := cell_below_of hb1 (show (W.alloc (.cells #[.slice tA nt tc, .slice hA nh hc] 26)).cell? ⟨W.heap.size, 0, none⟩ = some (.slice tA nt tc) from (by (repeat' refine And.intro ?_ ?_) <;> (repeat (first | (with_reducible assumption) | (simp; done) | (with_reducible refine cell_drew_of ?_) | (with_reducible refine cell_drewN_of ?_) | (with_reducible refine cell_below_of (by with_reducible assumption) ?_) | ((with_reducible refine cell_new_of ?_ ?_) <;> (first | (with_reducible rfl) | (simp; done))) | ((with_reducible refine fro_new_of ?_) <;> (first | (with_reducible rfl) | (simp; done))) | (with_reducible refine cell_alloc_of _ ?_) | (with_reducible refine cell_set_of _ (by (first | exact Nat.le_refl _ | omega | (simp; done) | (simp; omega))) ?_) | (with_reducible refine fro_drew_of ?_) | (with_reducible refine fro_drewN_of ?_) | (with_reducible refine fro_below_of (by with_reducible assumption) (by (first | exact Nat.le_refl _ | omega | (simp; done) | (simp; omega))) ?_) | (with_reducible refine fro_alloc_of _ (by (first | exact Nat.le_refl _ | omega | (simp; done) | (simp; omega))) ?_) | (with_reducible refine fro_set_of _ ?_)))))
  have q1 := cell_below_of hb1 (show (W.alloc (.cells #[.slice tA nt tc, .slice hA nh hc] 26)).cell? ⟨W.heap.size, 1, none⟩ = some (.slice hA nh hc) from (by (repeat' refine And.intro ?_ ?_) <;> (repeat (first | (with_reducible assumption) | (simp; done) | (with_reducible refine cell_drew_of ?_) | (with_reducible refine cell_drewN_of ?_) | (with_reducible refine cell_below_of (by with_reducible assumption) ?_) | ((with_reducible refine cell_new_of ?_ ?_) <;> (first | (with_reducible rfl) | (simp; done))) | ((with_reducible refine fro_new_of ?_) <;> (first | (with_reducible rfl) | (simp; done))) | (with_reducible refine cell_alloc_of _ ?_) | (with_reducible refine cell_set_of _ (by (first | exact Nat.le_refl _ | omega | (simp; done) | (simp; omega))) ?_) | (with_reducible refine fro_drew_of ?_) | (with_reducible refine fro_drewN_of ?_) | (with_reducible refine fro_below_of (by with_reducible assumption) (by (first | exact Nat.le_refl _ | omega | (simp; done) | (simp; omega))) ?_) | (with_reducible refine fro_alloc_of _ (by (first | exact Nat.le_refl _ | omega | (simp; done) | (simp; omega))) ?_) | (with_reducible refine fro_set_of _ ?_)))))
  have HB1 := Lib.hid (hba.trans (hb1.mono (by simp)))
  have hz1 := hb1.size
  simp only [World.size_alloc] at hz1
  clear hb1 hba HR1
  have hmm := @run_makeMap Tryz.prog
  go_wp2_with fail
  have hbf : Below w1.heap.size w1 ((w1.alloc (.map #[] 0)).alloc (.cells #[.slice tA nt tc, .slice hA nh hc, .map (some w1.heap.size), .func (.func 62) #[] #[]] 147)) := (by repeat (first | (with_reducible exact Below.refl _ _) | (with_reducible refine Below.drew ?_) | (with_reducible refine below_drewN ?_ _) | ((with_reducible refine below_alloc ?_ ?_ _); · (first | exact Nat.le_refl _ | omega | (simp; done) | (simp; omega) | (simp at *; omega))) | ((with_reducible refine below_set ?_ ?_ _); · (first | exact Nat.le_refl _ | omega | (simp; done) | (simp; omega) | (simp at *; omega))) | ((with_reducible refine below_via (by with_reducible assumption) ?_ ?_); · (first | exact Nat.le_refl _ | omega | (simp; done) | (simp; omega) | (simp at *; omega)))))
  have HBF := Lib.hid (HB1.out.trans (hbf.mono (by omega)))
  have HFM : Hid (ForceAt ((w1.alloc (.map #[] 0)).alloc (.cells #[.slice tA nt tc, .slice hA nh hc, .map (some w1.heap.size), .func (.func 62) #[] #[]] 147)) w1.heap.size 0 (fun _ _ => none)) := Lib.hid ((ForceAt.made w1).same (Below.heap_alloc _ _ _ (by simp)))
  go_ret2
  exact ⟨w1.heap.size + 1, w1.heap.size, rfl, HBF.out, by omega, by omega, (by (repeat' refine And.intro ?_ ?_) <;> (repeat (first | (with_reducible assumption) | (simp; done) | (with_reducible refine cell_drew_of ?_) | (with_reducible refine cell_drewN_of ?_) | (with_reducible refine cell_below_of (by with_reducible assumption) ?_) | ((with_reducible refine cell_new_of ?_ ?_) <;> (first | (with_reducible rfl) | (simp; done))) | ((with_reducible refine fro_new_of ?_) <;> (first | (with_reducible rfl) | (simp; done))) | (with_reducible refine cell_alloc_of _ ?_) | (with_reducible refine cell_set_of _ (by (first | exact Nat.le_refl _ | omega | (simp; done) | (simp; omega))) ?_) | (with_reducible refine fro_drew_of ?_) | (with_reducible refine fro_drewN_of ?_) | (with_reducible refine fro_below_of (by with_reducible assumption) (by (first | exact Nat.le_refl _ | omega | (simp; done) | (simp; omega))) ?_) | (with_reducible refine fro_alloc_of _ (by (first | exact Nat.le_refl _ | omega | (simp; done) | (simp; omega))) ?_) | (with_reducible refine fro_set_of _ ?_)))), (by (repeat' refine And.intro ?_ ?_) <;> (repeat (first | (with_reducible assumption) | (simp; done) | (with_reducible refine cell_drew_of ?_) | (with_reducible refine cell_drewN_of ?_) | (with_reducible refine cell_below_of (by with_reducible assumption) ?_) | ((with_reducible refine cell_new_of ?_ ?_) <;> (first | (with_reducible rfl) | (simp; done))) | ((with_reducible refine fro_new_of ?_) <;> (first | (with_reducible rfl) | (simp; done))) | (with_reducible refine cell_alloc_of _ ?_) | (with_reducible refine cell_set_of _ (by (first | exact Nat.le_refl _ | omega | (simp; done) | (simp; omega))) ?_) | (with_reducible refine fro_drew_of ?_) | (with_reducible refine fro_drewN_of ?_) | (with_reducible refine fro_below_of (by with_reducible assumption) (by (first | exact Nat.le_refl _ | omega | (simp; done) | (simp; omega))) ?_) | (with_reducible refine fro_alloc_of _ (by (first | exact Nat.le_refl _ | omega | (simp; done) | (simp; omega))) ?_) | (with_reducible refine fro_set_of _ ?_)))), (by (repeat' refine And.intro ?_ ?_) <;> (repeat (first | (with_reducible assumption) | (simp; done) | (with_reducible refine cell_drew_of ?_) | (with_reducible refine cell_drewN_of ?_) | (with_reducible refine cell_below_of (by with_reducible assumption) ?_) | ((with_reducible refine cell_new_of ?_ ?_) <;> (first | (with_reducible rfl) | (simp; done))) | ((with_reducible refine fro_new_of ?_) <;> (first | (with_reducible rfl) | (simp; done))) | (with_reducible refine cell_alloc_of _ ?_) | (with_reducible refine cell_set_of _ (by (first | exact Nat.le_refl _ | omega | (simp; done) | (simp; omega))) ?_) | (with_reducible refine fro_drew_of ?_) | (with_reducible refine fro_drewN_of ?_) | (with_reducible refine fro_below_of (by with_reducible assumption) (by (first | exact Nat.le_refl _ | omega | (simp; done) | (simp; omega))) ?_) | (with_reducible refine fro_alloc_of _ (by (first | exact Nat.le_refl _ | omega | (simp; done) | (simp; omega))) ?_) | (with_reducible refine fro_set_of _ ?_)))), HR.out.later HBF.out, ⟨_, HFM.out, fun k t v _ h => by cases h⟩, by omega, by omega, by omega⟩

set_option maxRecDepth 100000 in
set_option maxHeartbeats 4000000 in
/-- the force of a hand -/
theorem force_any (nt nh : Nat) (T : Nat → Nat → Int) (G : Nat → HndA) (hok : BeltOk nt nh T G) (B db mb n : Nat) (hn : n ≤ 1000) (tA hA : Option Addr) (tc hc : Nat) (k t : Nat) (hk : k < nh) (ht : t < nt) (W : World) (hd : DkAt W B db mb n tA nt tc T hA nh hc G) :
    Calls Tryz.prog 63 #[.pointer (some ⟨db, 0, none⟩), .int .i64 (k : Int), .int .i64 (t : Int)] W fun e W' => e = .returned (.int .i64 ((G k).h.force t)) ∧ W.grownBy W' (some mb) ∧ DkAt W' B db mb (n + 1) tA nt tc T hA nh hc G := by
  have HD := Lib.hid hd
  have HO := Lib.hid hok
  have h5 := hok.h5
  have h8 := hok.t8
  have hrg := hok.h k
  clear hd hok
  go_enter Tryz.func63, Tryz.ntmps63
  go_upto_region 2 with fail
  refine wp_name (fun W1 => (W1.cell? ⟨W.heap.size, 0, none⟩ = some (.int .i64 (k : Int)) ∧ W1.cell? ⟨W.heap.size, 1, none⟩ = some (.int .i64 (t : Int))) ∧ Below W.heap.size W W1 ∧ W.heap.size + 1 ≤ W1.heap.size) ⟨(by (repeat' refine And.intro ?_ ?_) <;> (repeat (first | (with_reducible assumption) | (simp; done) | (with_reducible refine cell_drew_of ?_) | (with_reducible refine cell_drewN_of ?_) | (with_reducible refine cell_below_of (by with_reducible assumption) ?_) | ((with_reducible refine cell_new_of ?_ ?_) <;> (first | (with_reducible rfl) | (simp; done))) | ((with_reducible refine fro_new_of ?_) <;> (first | (with_reducible rfl) | (simp; done))) | (with_reducible refine cell_alloc_of _ ?_) | (with_reducible refine cell_set_of _ (by (first | exact Nat.le_refl _ | omega | (simp; done) | (simp; omega))) ?_) | (with_reducible refine fro_drew_of ?_) | (with_reducible refine fro_drewN_of ?_) | (with_reducible refine fro_below_of (by with_reducible assumption) (by (first | exact Nat.le_refl _ | omega | (simp; done) | (simp; omega))) ?_) | (with_reducible refine fro_alloc_of _ (by (first | exact Nat.le_refl _ | omega | (simp; done) | (simp; omega))) ?_) | (with_reducible refine fro_set_of _ ?_)))), (by repeat (first | (with_reducible exact Below.refl _ _) | (with_reducible refine Below.drew ?_) | (with_reducible refine below_drewN ?_ _) | ((with_reducible refine below_alloc ?_ ?_ _); · (first | exact Nat.le_refl _ | omega | (simp; done) | (simp; omega) | (simp at *; omega))) | ((with_reducible refine below_set ?_ ?_ _); · (first | exact Nat.le_refl _ | omega | (simp; done) | (simp; omega) | (simp at *; omega))) | ((with_reducible refine below_via (by with_reducible assumption) ?_ ?_); · (first | exact Nat.le_refl _ | omega | (simp; done) | (simp; omega) | (simp at *; omega))))), by simp⟩ ?_
  rintro w1 ⟨⟨p0, p1⟩, hb1, hs1⟩
  have HD1 := Lib.hid (HD.out.later hb1)
  have HG1 := Lib.hid (show W.grownBy w1 (some mb) from ⟨hb1.os, hb1.tape, hb1.output, hb1.size, fun i hi _ => hb1.block i hi⟩)
  clear hb1
  obtain ⟨g, hf, hg⟩ := HD1.out.m
  have c2 := HD1.out.c2
  have hlk := (hf.same (w' := w1.drew) rfl).look (x := (k : Int)) (l := (t : Int)) (by omega) (by omega)
  have HF := Lib.hid hf
  have HGG := Lib.hid hg
  clear hf hg
  cases hgx : g (k : Int) (t : Int) with
  | some v =>
    rw [hgx] at hlk
    dsimp only [Option.getD_some, Option.isSome_some] at hlk
    have HV := Lib.hid (HGG.out k t v hk hgx)
    clear hgx
    go_region
    have HD2 := Lib.hid ((HD1.out.later (show Below w1.heap.size w1 w1.drew from (by repeat (first | (with_reducible exact Below.refl _ _) | (with_reducible assumption) | (with_reducible refine Below.drew ?_) | ((with_reducible refine below_alloc ?_ ?_ _); (· (first | exact Nat.le_refl _ | omega | (dsimp only; omega) | (simp only [World.size_alloc, World.size_drew, World.heap_drewN]; omega) | (simp; omega)))) | ((with_reducible refine below_set ?_ ?_ _); (· (first | exact Nat.le_refl _ | omega | (dsimp only; omega) | (simp only [World.size_alloc, World.size_drew, World.heap_drewN]; omega) | (simp; omega)))) | ((with_reducible refine below_via (by with_reducible assumption) ?_ ?_); (· (first | exact Nat.le_refl _ | omega | (dsimp only; omega) | (simp only [World.size_alloc, World.size_drew, World.heap_drewN]; omega) | (simp; omega)))))))).up (Nat.le_succ n))
    have HG2 := Lib.hid (gb_trans HG1.out (show World.grownBy w1 w1.drew (some mb) from ⟨rfl, rfl, rfl, Nat.le_refl _, fun _ _ _ => rfl⟩))
    clear hlk p0 p1 c2
    go_wp2_with fail
    go_ret
    exact ⟨by rw [HV.out]; rfl, HG2.out, HD2.out⟩
  | none =>
    rw [hgx] at hlk
    dsimp only [Option.getD_none, Option.isSome_none] at hlk
    have HGX := Lib.hid hgx
    clear hgx
    go_region
    obtain ⟨hb, ho, rfl, hhb, r0, r1, r2, r3, r4, r5, r6, r7, r8⟩ := HD1.out.r.h k hk
    have c1 := HD1.out.c1
    have hkn : (k : Int) < (nh : Int) := by omega
    have hk0 : (0 : Int) ≤ (k : Int) := by omega
    clear hlk c2
    go_upto_region 6 with fail
    refine wp_name (fun W2 => (W2.cell? ⟨w1.heap.size, 5, none⟩ = some (.int .i64 (G k).h.st) ∧ W2.cell? ⟨w1.heap.size, 6, none⟩ = some (.int .i64 (G k).h.ti) ∧ W2.cell? ⟨w1.heap.size, 8, none⟩ = some (.slice (G k).a (G k).h.nr (G k).c)) ∧ Below w1.heap.size w1 W2 ∧ w1.heap.size + 1 ≤ W2.heap.size) ⟨(by (repeat' refine And.intro ?_ ?_) <;> (repeat (first | (with_reducible assumption) | (simp; done) | (with_reducible refine cell_drew_of ?_) | (with_reducible refine cell_drewN_of ?_) | (with_reducible refine cell_below_of (by with_reducible assumption) ?_) | ((with_reducible refine cell_new_of ?_ ?_) <;> (first | (with_reducible rfl) | (simp; done))) | ((with_reducible refine fro_new_of ?_) <;> (first | (with_reducible rfl) | (simp; done))) | (with_reducible refine cell_alloc_of _ ?_) | (with_reducible refine cell_set_of _ (by (first | exact Nat.le_refl _ | omega | (simp; done) | (simp; omega))) ?_) | (with_reducible refine fro_drew_of ?_) | (with_reducible refine fro_drewN_of ?_) | (with_reducible refine fro_below_of (by with_reducible assumption) (by (first | exact Nat.le_refl _ | omega | (simp; done) | (simp; omega))) ?_) | (with_reducible refine fro_alloc_of _ (by (first | exact Nat.le_refl _ | omega | (simp; done) | (simp; omega))) ?_) | (with_reducible refine fro_set_of _ ?_)))), (by repeat (first | (with_reducible exact Below.refl _ _) | (with_reducible refine Below.drew ?_) | (with_reducible refine below_drewN ?_ _) | ((with_reducible refine below_alloc ?_ ?_ _); · (first | exact Nat.le_refl _ | omega | (simp; done) | (simp; omega) | (simp at *; omega))) | ((with_reducible refine below_set ?_ ?_ _); · (first | exact Nat.le_refl _ | omega | (simp; done) | (simp; omega) | (simp at *; omega))) | ((with_reducible refine below_via (by with_reducible assumption) ?_ ?_); · (first | exact Nat.le_refl _ | omega | (simp; done) | (simp; omega) | (simp at *; omega))))), by simp⟩ ?_
    rintro w2 ⟨hbx, hb2, hs2⟩
    have HD2 := Lib.hid (HD1.out.later hb2)
    have HG2 := Lib.hid (gb_trans HG1.out (show World.grownBy w1 w2 (some mb) from ⟨hb2.os, hb2.tape, hb2.output, hb2.size, fun i hi _ => hb2.block i hi⟩))
    have HBX := Lib.hid hbx
    have HPP := Lib.hid (And.intro (cell_below_of hb2 p0) (cell_below_of hb2 p1))
    clear hbx hb2 r0 r1 r2 r3 r4 r5 r6 r7 r8 c1 p0 p1 HD1 HG1 HF
    have et : IntKind.i64.wrap ((t : Int) + 1) = (t : Int) + 1 := IntWalk.i64_in _ (by omega)
    go_upto_region 8 with fail
    go_loopw [11, 12, 38] (fun x y v wr => ∃ j : Nat, j ≤ t + 1 ∧ x = .int .i64 ((G k).h.fl j).1 ∧ y = .int .i64 ((G k).h.fl j).2 ∧ v = .int .i64 j ∧ Hid (DkAt wr B db mb n tA nt tc T (some ⟨hb, ho, none⟩) nh hc G) ∧ Hid (Below w2.heap.size w2 wr)) (fun _ _ v _ => t + 1 - (intOf v).toNat)
    case atStart => exact ⟨0, Nat.zero_le _, rfl, rfl, rfl, HD2, Lib.hid (Below.refl _ _)⟩
    case round =>
      clear HD2
      obtain ⟨j, hj, rfl, rfl, rfl, HDr, HBr⟩ := hrel
      obtain ⟨wo, rfl⟩ : ∃ wo, wo = wr := ⟨_, rfl⟩
      obtain ⟨b5, b6, b8⟩ : wo.cell? ⟨w1.heap.size, 5, none⟩ = some (.int .i64 (G k).h.st) ∧ wo.cell? ⟨w1.heap.size, 6, none⟩ = some (.int .i64 (G k).h.ti) ∧ wo.cell? ⟨w1.heap.size, 8, none⟩ = some (.slice (G k).a (G k).h.nr (G k).c) := ⟨cell_below_of HBr.out HBX.out.1, cell_below_of HBr.out HBX.out.2.1, cell_below_of HBr.out HBX.out.2.2⟩
      have hso := HBr.out.size
      by_cases hlt : j < t + 1
      · have hji : (j : Int) < (t : Int) + 1 := by omega
        have ej : IntKind.i64.wrap ((j : Int) + 1) = (j : Int) + 1 := IntWalk.i64_in _ (by omega)
        have HFS : Hid ((G k).h.fl (j + 1) = if (G k).h.lets j then (0, 0) else (max 0 ((G k).h.st - (G k).h.ti * ((G k).h.fl j).2), ((G k).h.fl j).2 + 1)) := Lib.hid rfl
        have hfb := Hnd.fl_bd hrg j
        have hrg1 := hrg.1
        have hrg2 := hrg.2.1
        obtain ⟨f1, hf1⟩ : ∃ x, ((G k).h.fl j).1 = x := ⟨_, rfl⟩
        obtain ⟨f2, hf2⟩ : ∃ x, ((G k).h.fl j).2 = x := ⟨_, rfl⟩
        rw [hf1, hf2] at hfb
        rw [hf2] at HFS
        rw [hf1, hf2]
        obtain ⟨st, hst⟩ : ∃ x, (G k).h.st = x := ⟨_, rfl⟩
        obtain ⟨ti, hti⟩ : ∃ x, (G k).h.ti = x := ⟨_, rfl⟩
        rw [hst] at b5 hrg1 HFS
        rw [hti] at b6 hrg2 HFS
        have hmul := mul_bd (a := ti) (b := f2) (m := 10) (n := 8) hrg2 (by omega)
        have e1 : IntKind.i64.wrap (ti * f2) = ti * f2 := IntWalk.i64_in _ (by omega)
        have e2 : IntKind.i64.wrap (st - ti * f2) = st - ti * f2 := IntWalk.i64_in _ (by omega)
        have e3 : IntKind.i64.wrap (f2 + 1) = f2 + 1 := IntWalk.i64_in _ (by omega)
        have HKP := Lib.hid (And.intro b5 b6)
        clear hf1 hf2 hst hti hmul hfb hrg1 hrg2 b5 b6
        go_wp2_with fail
        refine (bcontains_any (G k).a (G k).h.nr (G k).c (G k).h.rs (j : Int) _ (HDr.out.r.up.r k hk) (HO.out.nr k hk)).mono ?_
        rintro e w3 ⟨rfl, hb3⟩
        have HD3 := Lib.hid (HDr.out.later hb3)
        have HB3 := Lib.hid (HBr.out.trans (hb3.mono hso))
        have b5 := cell_below_of hb3 HKP.out.1
        have b6 := cell_below_of hb3 HKP.out.2
        have HLE : Hid ((G k).h.lets j = anyN (fun i => decide ((G k).h.rs i = (j : Int))) (G k).h.nr) := Lib.hid rfl
        clear hb3 HDr HBr b8 HKP hso
        cases hl : anyN (fun i => decide ((G k).h.rs i = (j : Int))) (G k).h.nr with
        | true =>
          have HF1 : Hid ((G k).h.fl (j + 1) = (0, 0)) := Lib.hid (by rw [HFS.out, HLE.out, hl]; rfl)
          clear hl
          go_wp2_with fail
          go_roundw
          case rel => exact ⟨j + 1, by omega, by rw [HF1.out], by rw [HF1.out], by go_num, HD3, HB3⟩
          case measure => simp [intOf]; omega
        | false =>
          have HF1 : Hid ((G k).h.fl (j + 1) = (max 0 (st - ti * f2), f2 + 1)) := Lib.hid (by rw [HFS.out, HLE.out, hl]; rfl)
          clear hl
          go_wp2_with fail
          go_roundw
          case rel => exact ⟨j + 1, by omega, by rw [HF1.out], by rw [HF1.out], by go_num, HD3, HB3⟩
          case measure => simp [intOf]; omega
      · obtain rfl : j = t + 1 := by omega
        have hge : ¬ ((t + 1 : Nat) : Int) < (t : Int) + 1 := by omega
        have hfb := Hnd.fl_bd hrg (t + 1)
        have HFF : Hid ((G k).h.force t = ((G k).h.fl (t + 1)).1) := Lib.hid rfl
        obtain ⟨f1, hf1⟩ : ∃ x, ((G k).h.fl (t + 1)).1 = x := ⟨_, rfl⟩
        rw [hf1] at hfb HFF ⊢
        generalize ((G k).h.fl (t + 1)).2 = f2
        obtain ⟨g', hf', hg'⟩ := HDr.out.m
        obtain ⟨w4, hrun, hf4, hg4⟩ := (hf'.same (w' := wo.drew) rfl).put (x := (k : Int)) (l := (t : Int)) (by omega) (by omega) (v := f1) (by omega) (by omega)
        have HG4 := Lib.hid (gb_trans HG2.out (gb_trans (show World.grownBy w2 wo (some mb) from ⟨HBr.out.os, HBr.out.tape, HBr.out.output, HBr.out.size, fun i hi _ => HBr.out.block i hi⟩) (gb_trans (show World.grownBy wo wo.drew (some mb) from ⟨rfl, rfl, rfl, Nat.le_refl _, fun _ _ _ => rfl⟩) hg4)))
        have HD4 : Hid (DkAt w4 B db mb (n + 1) tA nt tc T (some ⟨hb, ho, none⟩) nh hc G) := Lib.hid ((HDr.out.later (show Below wo.heap.size wo wo.drew from (by repeat (first | (with_reducible exact Below.refl _ _) | (with_reducible assumption) | (with_reducible refine Below.drew ?_) | ((with_reducible refine below_alloc ?_ ?_ _); (· (first | exact Nat.le_refl _ | omega | (dsimp only; omega) | (simp only [World.size_alloc, World.size_drew, World.heap_drewN]; omega) | (simp; omega)))) | ((with_reducible refine below_set ?_ ?_ _); (· (first | exact Nat.le_refl _ | omega | (dsimp only; omega) | (simp only [World.size_alloc, World.size_drew, World.heap_drewN]; omega) | (simp; omega)))) | ((with_reducible refine below_via (by with_reducible assumption) ?_ ?_); (· (first | exact Nat.le_refl _ | omega | (dsimp only; omega) | (simp only [World.size_alloc, World.size_drew, World.heap_drewN]; omega) | (simp; omega)))))))).gr hg4 ⟨_, hf4, fun x y v hx hv => by
          split at hv
          · rename_i e
            injection hv with hv
            have e1 : x = k := by omega
            have e2 : y = t := by omega
            subst e1 e2
            rw [HFF.out, hv]
          · exact hg' x y v hx hv⟩)
        have c2 := HDr.out.c2
        have pp0 := cell_below_of HBr.out HPP.out.1
        have pp1 := cell_below_of HBr.out HPP.out.2
        clear hf1 hf' hg' hf4 hg4 hfb b5 b6 b8
        go_upto_region 15 with fail
        go_region
        go_wp2_with fail
        go_ret
        exact ⟨by rw [HFF.out]; rfl, HG4.out, HD4.out⟩
end Go.Proofs.YtmbkngfcbgbeiaaGreat
