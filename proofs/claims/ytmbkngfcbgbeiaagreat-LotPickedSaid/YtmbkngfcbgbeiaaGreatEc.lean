/- The map of forces; belt.Check, belt.opened, belt.desk.hands. -/
import Derived.Test.YtmbkngfcbgbeiaaGreatEb
import Derived.Test.YtmbkngfcbgbeiaaGreatMp
set_option linter.unusedSimpArgs false
set_option linter.unusedVariables false
namespace Go.Proofs.YtmbkngfcbgbeiaaGreat
open Go.RowKit Go.Shelf

theorem kplace : WideMaps.KeyLaw Tryz.prog 185 := deep_law_gate (by kernel_rfl) tsize.1 (Nat.lt_trans (by decide) tsize.2) (by kernel_rfl) (by kernel_rfl)
theorem place_keyed : Maps.Keyed Tryz.prog 185 := Maps.Keyed.of_law kplace
abbrev plV (h t : Int) : Value := .agg #[.int .i64 h, .int .i64 t]
set_option maxRecDepth 100000 in
theorem key_place {a b : Int} (h1 : (Lit.int .i64 a).wf = true) (h2 : (Lit.int .i64 b).wf = true) :
    keyOf Tryz.prog 185 (plV a b) = some (.string (keyBytes [.int .i64 a, .int .i64 b])) := by
  unfold keyOf
  obtain ⟨fs, hfs⟩ : ∃ fs, Tryz.prog.underlying 185 = some (.struct fs) := ⟨Tryz.prog.fieldsOf 185, by kernel_rfl⟩
  rw [hfs]
  dsimp only
  rw [show Tryz.prog.keyType 185 = true by kernel_rfl, show (Value.agg #[.int .i64 a, .int .i64 b]).formed Tryz.prog 185 = true by kernel_rfl]
  rw [Bool.and_self, if_pos rfl]
  obtain ⟨m, hm⟩ : ∃ m, Tryz.prog.types.size + 1 = m + 1 + 1 := ⟨Tryz.prog.types.size - 1, by have := tsize.2; omega⟩
  rw [hm]
  show Option.map _ (Tryz.prog.keyLits (m + 1 + 1) 185 [.int .i64 a, .int .i64 b]) = _
  have hl : Tryz.prog.keyLits (m + 1 + 1) 185 [.int .i64 a, .int .i64 b] = some [.int .i64 a, .int .i64 b] := by
    unfold Program.keyLits
    rw [hfs]
    dsimp only
    have e1 : Tryz.prog.fieldsOf 185 = fs := by unfold Program.fieldsOf; rw [hfs]
    have e2 : (Tryz.prog.fieldsOf 185).all (·.name != "_") = true := by kernel_rfl
    have e3 : (Tryz.prog.fieldsOf 185).toList.map (fun f => (f.type, f.offset)) = [(3, 0), (3, 1)] := by kernel_rfl
    rw [e1] at e2 e3
    rw [show Tryz.prog.cellsOf 185 = 2 by kernel_rfl, if_pos ⟨rfl, e2⟩]
    obtain ⟨fl⟩ := fs
    match fl, e3 with
    | [f, g], e3 =>
      simp only [List.map_cons, List.map_nil, List.cons.injEq, Prod.mk.injEq, and_true] at e3
      obtain ⟨⟨t1, o1⟩, t2, o2⟩ := e3
      simp only [List.mapM_cons, List.mapM_nil, t1, o1, t2, o2]
      rw [show Tryz.prog.cellsOf 3 = 1 by kernel_rfl]
      simp [lits_int m h1, lits_int m h2]
  rw [hl]
  rfl
theorem plV_inj {a b c d : Int} (h : plV a b = plV c d) : a = c ∧ b = d := by
  simp only [Value.agg.injEq, Array.mk.injEq, List.cons.injEq, Value.int.injEq, true_and, and_true] at h
  exact h
theorem force_under : Tryz.prog.underlying 144 = some (.map 185 3) := by kernel_rfl
/-- block b is a map of at most n places, with forces as g says -/
def ForceAt (w : World) (b n : Nat) (g : Int → Int → Option Int) : Prop :=
  ∃ D : DataW Unit, w.ownsMap Tryz.prog 185 (plainElem Tryz.prog 3) b n D ∧ Maps.IsMap D ∧ ∀ x l kl, keyOf Tryz.prog 185 (plV x l) = some kl → Maps.has D kl = (g x l).isSome ∧ D.atKey kl (.lit (.int .i64 0)) = .lit (.int .i64 ((g x l).getD 0))
theorem ForceAt.made (w : World) : ForceAt (w.alloc (.map #[] 0)) w.heap.size 0 (fun _ _ => none) := ⟨.map [], World.ownsMap_made _ _ _ _, Maps.isMap_empty, fun _ _ _ _ => ⟨rfl, rfl⟩⟩
theorem ForceAt.lt {w : World} {b n : Nat} {g : Int → Int → Option Int} (h : ForceAt w b n g) : b < w.heap.size := h.choose_spec.1.lt
theorem ForceAt.same {w w' : World} {b n : Nat} {g : Int → Int → Option Int} (h : ForceAt w b n g) (hb : w'.heap[b]? = w.heap[b]?) : ForceAt w' b n g := by
  obtain ⟨D, ⟨es, clock, h0, r⟩, h2, h3⟩ := h
  exact ⟨D, ⟨es, clock, hb.trans h0, r⟩, h2, h3⟩
theorem ForceAt.look {w : World} {b n : Nat} {g : Int → Int → Option Int} (h : ForceAt w b n g) {x l : Int} (hx : 0 ≤ x ∧ x ≤ 1000) (hl : 0 ≤ l ∧ l ≤ 1000) :
    (Instr.lookup 144 (.map (some b)) (plV x l) true).run Tryz.prog w = .ok (.tuple #[.int .i64 ((g x l).getD 0), .bool (g x l).isSome]) w := by
  obtain ⟨D, h1, _, h3⟩ := h
  have hk := key_place (wf_sml (n := x) (by omega)) (wf_sml (n := l) (by omega))
  obtain ⟨v, ps, hr, hv⟩ := h1.look_ok place_keyed force_under (zero_int w) (plainElem_int int_under (wf_sml (n := 0) (by omega))) hk
  obtain ⟨h4, h5⟩ := h3 x l _ hk
  rw [h5] at hv
  obtain ⟨a, rfl, hz, _⟩ := plainElem_int_inv int_under hv
  simp only [Prod.mk.injEq, DataW.lit.injEq, Lit.int.injEq, true_and] at hz
  rw [hr, ← hz.1, h4]
theorem ForceAt.put {w : World} {b n : Nat} {g : Int → Int → Option Int} (h : ForceAt w b n g) {x l : Int} (hx : 0 ≤ x ∧ x ≤ 1000) (hl : 0 ≤ l ∧ l ≤ 1000) {v : Int} (hv : 0 ≤ v ∧ v ≤ 1000000) (hn : n ≤ 1000000) :
    ∃ w', (Instr.mapUpdate 144 (.map (some b)) (plV x l) (.int .i64 v)).run Tryz.prog w = .ok () w' ∧ ForceAt w' b (n + 1) (fun y m => if y = x ∧ m = l then some v else g y m) ∧ w.grownBy w' (some b) := by
  obtain ⟨D, h1, h2, h3⟩ := h
  have hk := key_place (wf_sml (n := x) (by omega)) (wf_sml (n := l) (by omega))
  obtain ⟨w', hr, h4, h5⟩ := h1.update place_keyed force_under (by unfold maxLen; omega) hk (plainElem_int int_under (wf_sml hv))
  refine ⟨w', hr, ⟨_, h4, h2.put _ _, fun y m ky hy => ?_⟩, h5⟩
  dsimp only
  by_cases e : y = x ∧ m = l
  · obtain ⟨rfl, rfl⟩ := e
    rw [hk] at hy
    injection hy with hy
    subst hy
    rw [Maps.atKey_put_same h2 (place_keyed.key hk), Maps.has_put_same h2 (place_keyed.key hk), if_pos ⟨rfl, rfl⟩]
    exact ⟨rfl, rfl⟩
  · have hne : ky ≠ _ := fun e2 => e (plV_inj (place_keyed.inj hy (by rw [e2]; exact hk)))
    rw [Maps.atKey_put_other hne, Maps.has_put_other hne, if_neg e]
    exact h3 y m ky hy

set_option maxRecDepth 100000 in
set_option maxHeartbeats 2000000 in
/-- belt.Check of a right belt -/
theorem bcheck_any (nt nh : Nat) (T : Nat → Nat → Int) (G : Nat → HndA) (hok : BeltOk nt nh T G) (B : Nat) (tA hA : Option Addr) (tc hc : Nat) (W : World) (hr : BeltRow W B tA nt T hA nh G) :
    Calls Tryz.prog 61 #[beV tA nt tc hA nh hc] W fun e W' => e = .returned (.int .i64 0) ∧ Below W.heap.size W W' := by
  have HO := Lib.hid hok
  have HR := Lib.hid hr.up
  have hn1 := hok.t1
  have hn8 := hok.t8
  have hh5 := hok.h5
  clear hok hr
  have hno : ¬ (5 : Int) < (nh : Int) := by omega
  go_enter Tryz.func61, Tryz.ntmps61
  go_wp2_with fail
  refine (bin_yes _ _ _ (by omega) _).mono ?_
  rintro e w ⟨rfl, rfl⟩
  have hba : Below W.heap.size W (W.alloc (.cells #[.slice tA nt tc, .slice hA nh hc] 26)) := (by repeat (first | (with_reducible exact Below.refl _ _) | (with_reducible refine Below.drew ?_) | (with_reducible refine below_drewN ?_ _) | ((with_reducible refine below_alloc ?_ ?_ _); · (first | exact Nat.le_refl _ | omega | (simp; done) | (simp; omega) | (simp at *; omega))) | ((with_reducible refine below_set ?_ ?_ _); · (first | exact Nat.le_refl _ | omega | (simp; done) | (simp; omega) | (simp at *; omega))) | ((with_reducible refine below_via (by with_reducible assumption) ?_ ?_); · (first | exact Nat.le_refl _ | omega | (simp; done) | (simp; omega) | (simp at *; omega)))))
  have HR1 := Lib.hid (HR.out.later hba).up
  have q0 : (W.alloc (.cells #[.slice tA nt tc, .slice hA nh hc] 26)).cell? ⟨W.heap.size, 0, none⟩ = some (.slice tA nt tc) := (by (repeat' refine And.intro ?_ ?_) <;> (repeat (first | (with_reducible assumption) | (simp; done) | (with_reducible refine cell_drew_of ?_) | (with_reducible refine cell_drewN_of ?_) | (with_reducible refine cell_below_of (by with_reducible assumption) ?_) | ((with_reducible refine cell_new_of ?_ ?_) <;> (first | (with_reducible rfl) | (simp; done))) | ((with_reducible refine fro_new_of ?_) <;> (first | (with_reducible rfl) | (simp; done))) | (with_reducible refine cell_alloc_of _ ?_) | (with_reducible refine cell_set_of _ (by (first | exact Nat.le_refl _ | omega | (simp; done) | (simp; omega))) ?_) | (with_reducible refine fro_drew_of ?_) | (with_reducible refine fro_drewN_of ?_) | (with_reducible refine fro_below_of (by with_reducible assumption) (by (first | exact Nat.le_refl _ | omega | (simp; done) | (simp; omega))) ?_) | (with_reducible refine fro_alloc_of _ (by (first | exact Nat.le_refl _ | omega | (simp; done) | (simp; omega))) ?_) | (with_reducible refine fro_set_of _ ?_))))
  have HQ0 := Lib.hid q0
  clear q0
  go_wp2_with fail
  refine (ball_tr tA nt tc T _ HR1.out.t (by omega) 92 (fun _ => true) (enters_of Tryz.func92 (by kernel_rfl) rfl) (fun k hk w _ => pieces_any (T k) (HO.out.t k) w)).mono ?_
  rintro e w1 ⟨rfl, hb1⟩
  rw [allN_true]
  have HR2 := Lib.hid (HR1.out.later hb1).up
  have HQ1 := Lib.hid (cell_below_of hb1 HQ0.out)
  have hz1 := hb1.size
  simp only [World.size_alloc] at hz1
  have HB1 := Lib.hid (hba.trans (hb1.mono (by simp)))
  have q1 := cell_below_of hb1 (show (W.alloc (.cells #[.slice tA nt tc, .slice hA nh hc] 26)).cell? ⟨W.heap.size, 1, none⟩ = some (.slice hA nh hc) from (by (repeat' refine And.intro ?_ ?_) <;> (repeat (first | (with_reducible assumption) | (simp; done) | (with_reducible refine cell_drew_of ?_) | (with_reducible refine cell_drewN_of ?_) | (with_reducible refine cell_below_of (by with_reducible assumption) ?_) | ((with_reducible refine cell_new_of ?_ ?_) <;> (first | (with_reducible rfl) | (simp; done))) | ((with_reducible refine fro_new_of ?_) <;> (first | (with_reducible rfl) | (simp; done))) | (with_reducible refine cell_alloc_of _ ?_) | (with_reducible refine cell_set_of _ (by (first | exact Nat.le_refl _ | omega | (simp; done) | (simp; omega))) ?_) | (with_reducible refine fro_drew_of ?_) | (with_reducible refine fro_drewN_of ?_) | (with_reducible refine fro_below_of (by with_reducible assumption) (by (first | exact Nat.le_refl _ | omega | (simp; done) | (simp; omega))) ?_) | (with_reducible refine fro_alloc_of _ (by (first | exact Nat.le_refl _ | omega | (simp; done) | (simp; omega))) ?_) | (with_reducible refine fro_set_of _ ?_)))))
  clear hb1 hba HQ0
  go_wp2_with fail
  refine (ball_hd hA nh hc G _ HR2.out.h (by omega) 94 (fun _ => true) (enters_of Tryz.func94 (by kernel_rfl) rfl) (fun k hk w _ => bcheck1 (G k) (HO.out.h k) w)).mono ?_
  rintro e w2 ⟨rfl, hb2⟩
  rw [allN_true]
  have HR3 := Lib.hid (HR2.out.later hb2).up
  have HQ2 := Lib.hid (cell_below_of hb2 HQ1.out)
  have hz2 := hb2.size
  have HB2 := Lib.hid (HB1.out.trans (hb2.mono (by omega)))
  have q2 := cell_below_of hb2 q1
  clear hb2 q1 HQ1 HB1 HR1 HR2
  go_wp2_with fail
  refine (ball_hdC hA nh hc G _ HR3.out.h (by omega) 95 W.heap.size (fun _ => true) (enters_of Tryz.func95 (by kernel_rfl) rfl) (fun k hk w hb => bcheck2 (G k) nt tc W.heap.size tA w (cell_below_of hb HQ2.out) hn8 ((HR3.out.later hb).up.r k hk) (HO.out.nr k hk) (HO.out.r k hk))).mono ?_
  rintro e w3 ⟨rfl, hb3⟩
  rw [allN_true]
  have HR4 := Lib.hid (HR3.out.later hb3).up
  have hz3 := hb3.size
  have HB3 := Lib.hid (HB2.out.trans (hb3.mono (by omega)))
  have q3 := cell_below_of hb3 q2
  clear hb3 q2 HB2 HQ2 HR3
  go_wp2_with fail
  refine (ball_hd hA nh hc G _ HR4.out.h (by omega) 98 (fun _ => true) (enters_of Tryz.func98 (by kernel_rfl) rfl) (fun k hk w hb => bcheck3 (G k) w ((HR4.out.later hb).up.r k hk) (HO.out.nr k hk) (HO.out.u k hk))).mono ?_
  rintro e w4 ⟨rfl, hb4⟩
  rw [allN_true]
  have HB4 := Lib.hid (HB3.out.trans (hb4.mono (by omega)))
  clear hb4 q3 HB3 HR4
  go_wp2_with fail
  go_ret
  exact ⟨rfl, HB4.out⟩
end Go.Proofs.YtmbkngfcbgbeiaaGreat
