/- Maps by bags and by stages. -/
import Derived.Test.YtmbkngfcbgbeiaaGreatWp
import Derived.DeepKeys5
import Derived.Maps.OwnSet
set_option linter.unusedSimpArgs false
set_option linter.unusedVariables false
namespace Go.Proofs.YtmbkngfcbgbeiaaGreat
open Go.RowKit Go.Shelf

theorem tsize : Tryz.prog.types.size + 2 ≤ 10000 ∧ 190 < Tryz.prog.types.size := by
  have : decide (Tryz.prog.types.size + 2 ≤ 10000 ∧ 190 < Tryz.prog.types.size) = true := by kernel_rfl
  exact of_decide_eq_true this
theorem kbag : WideMaps.KeyLaw Tryz.prog 89 := deep_law_gate (by kernel_rfl) tsize.1 (Nat.lt_trans (by decide) tsize.2) (by kernel_rfl) (by kernel_rfl)
theorem kstage : WideMaps.KeyLaw Tryz.prog 138 := deep_law_gate (by kernel_rfl) tsize.1 (Nat.lt_trans (by decide) tsize.2) (by kernel_rfl) (by kernel_rfl)
theorem lits_int (d : Nat) {n : Int} (h : (Lit.int .i64 n).wf = true) : Tryz.prog.keyLits (d + 1) 3 [.int .i64 n] = some [.int .i64 n] := by
  unfold Program.keyLits
  rw [show Tryz.prog.underlying 3 = some (.int .i64) by kernel_rfl]
  simp [h]
theorem lits_bag (m : Nat) {a b c d : Int} (h1 : (Lit.int .i64 a).wf = true) (h2 : (Lit.int .i64 b).wf = true) (h3 : (Lit.int .i64 c).wf = true) (h4 : (Lit.int .i64 d).wf = true) :
    Tryz.prog.keyLits (m + 1 + 1) 89 [.int .i64 a, .int .i64 b, .int .i64 c, .int .i64 d] = some [.int .i64 a, .int .i64 b, .int .i64 c, .int .i64 d] := by
  unfold Program.keyLits
  rw [show Tryz.prog.underlying 89 = some (.array 4 3) by kernel_rfl]
  dsimp only
  rw [show Tryz.prog.cellsOf 89 = 4 by kernel_rfl, show Tryz.prog.cellsOf 3 = 1 by kernel_rfl]
  rw [show List.range 4 = [0, 1, 2, 3] from rfl]
  simp [lits_int m h1, lits_int m h2, lits_int m h3, lits_int m h4]
theorem key_bag {a b c d : Int} (h1 : (Lit.int .i64 a).wf = true) (h2 : (Lit.int .i64 b).wf = true) (h3 : (Lit.int .i64 c).wf = true) (h4 : (Lit.int .i64 d).wf = true) :
    keyOf Tryz.prog 89 (.agg #[.int .i64 a, .int .i64 b, .int .i64 c, .int .i64 d]) = some (.string (keyBytes [.int .i64 a, .int .i64 b, .int .i64 c, .int .i64 d])) := by
  unfold keyOf
  rw [show Tryz.prog.underlying 89 = some (.array 4 3) by kernel_rfl]
  dsimp only
  rw [show Tryz.prog.keyType 89 = true by kernel_rfl, show (Value.agg #[.int .i64 a, .int .i64 b, .int .i64 c, .int .i64 d]).formed Tryz.prog 89 = true by kernel_rfl]
  rw [Bool.and_self, if_pos rfl]
  obtain ⟨m, hm⟩ : ∃ m, Tryz.prog.types.size + 1 = m + 1 + 1 := ⟨Tryz.prog.types.size - 1, by have := tsize.2; omega⟩
  rw [hm]
  show Option.map _ (Tryz.prog.keyLits (m + 1 + 1) 89 [.int .i64 a, .int .i64 b, .int .i64 c, .int .i64 d]) = _
  rw [lits_bag m h1 h2 h3 h4]
  rfl
set_option maxRecDepth 100000 in
theorem key_stage {a b c d l : Int} (h1 : (Lit.int .i64 a).wf = true) (h2 : (Lit.int .i64 b).wf = true) (h3 : (Lit.int .i64 c).wf = true) (h4 : (Lit.int .i64 d).wf = true) (h5 : (Lit.int .i64 l).wf = true) :
    keyOf Tryz.prog 138 (.agg #[.int .i64 a, .int .i64 b, .int .i64 c, .int .i64 d, .int .i64 l]) = some (.string (keyBytes [.int .i64 a, .int .i64 b, .int .i64 c, .int .i64 d, .int .i64 l])) := by
  unfold keyOf
  obtain ⟨fs, hfs⟩ : ∃ fs, Tryz.prog.underlying 138 = some (.struct fs) := ⟨Tryz.prog.fieldsOf 138, by kernel_rfl⟩
  rw [hfs]
  dsimp only
  rw [show Tryz.prog.keyType 138 = true by kernel_rfl, show (Value.agg #[.int .i64 a, .int .i64 b, .int .i64 c, .int .i64 d, .int .i64 l]).formed Tryz.prog 138 = true by kernel_rfl]
  rw [Bool.and_self, if_pos rfl]
  obtain ⟨m, hm⟩ : ∃ m, Tryz.prog.types.size + 1 = m + 1 + 1 + 1 := ⟨Tryz.prog.types.size - 2, by have := tsize.2; omega⟩
  rw [hm]
  show Option.map _ (Tryz.prog.keyLits (m + 1 + 1 + 1) 138 [.int .i64 a, .int .i64 b, .int .i64 c, .int .i64 d, .int .i64 l]) = _
  have hl : Tryz.prog.keyLits (m + 1 + 1 + 1) 138 [.int .i64 a, .int .i64 b, .int .i64 c, .int .i64 d, .int .i64 l] = some [.int .i64 a, .int .i64 b, .int .i64 c, .int .i64 d, .int .i64 l] := by
    unfold Program.keyLits
    rw [hfs]
    dsimp only
    have e1 : Tryz.prog.fieldsOf 138 = fs := by unfold Program.fieldsOf; rw [hfs]
    have e2 : (Tryz.prog.fieldsOf 138).all (·.name != "_") = true := by kernel_rfl
    have e3 : (Tryz.prog.fieldsOf 138).toList.map (fun f => (f.type, f.offset)) = [(89, 0), (3, 4)] := by kernel_rfl
    rw [e1] at e2 e3
    rw [show Tryz.prog.cellsOf 138 = 5 by kernel_rfl, if_pos ⟨rfl, e2⟩]
    obtain ⟨fl⟩ := fs
    match fl, e3 with
    | [f, g], e3 =>
      simp only [List.map_cons, List.map_nil, List.cons.injEq, Prod.mk.injEq, and_true] at e3
      obtain ⟨⟨t1, o1⟩, t2, o2⟩ := e3
      simp only [List.mapM_cons, List.mapM_nil, t1, o1, t2, o2]
      rw [show Tryz.prog.cellsOf 89 = 4 by kernel_rfl, show Tryz.prog.cellsOf 3 = 1 by kernel_rfl]
      simp [lits_int (m + 1) h5, lits_bag m h1 h2 h3 h4]
  rw [hl]
  rfl

theorem bag_keyed : Maps.Keyed Tryz.prog 89 := Maps.Keyed.of_law kbag
theorem stage_keyed : Maps.Keyed Tryz.prog 138 := Maps.Keyed.of_law kstage

/-- small numbers -/
def Bag.sml (x : Bag) : Prop := (0 ≤ x.a ∧ x.a ≤ 6) ∧ (0 ≤ x.b ∧ x.b ≤ 6) ∧ (0 ≤ x.c ∧ x.c ≤ 6) ∧ 0 ≤ x.d ∧ x.d ≤ 6
theorem wf_sml {n : Int} (h : 0 ≤ n ∧ n ≤ 1000000) : (Lit.int .i64 n).wf = true := WalkArith.wf_i64 (by omega)
theorem bag_key {x : Bag} (h : x.sml) : ∃ kl, keyOf Tryz.prog 89 (bagV x) = some kl := by
  unfold Bag.sml at h
  exact ⟨_, key_bag (wf_sml (by omega)) (wf_sml (by omega)) (wf_sml (by omega)) (wf_sml (by omega))⟩
/-- a stage's value, a choice's value -/
abbrev stgV (x : Bag) (l : Int) : Value := .agg #[.int .i64 x.a, .int .i64 x.b, .int .i64 x.c, .int .i64 x.d, .int .i64 l]
abbrev choV (c : Bag × Int) : Value := .agg #[.int .i64 c.1.a, .int .i64 c.1.b, .int .i64 c.1.c, .int .i64 c.1.d, .int .i64 c.2]
theorem stage_key {x : Bag} {l : Int} (h : x.sml) (hl : 0 ≤ l ∧ l ≤ 3) : ∃ kl, keyOf Tryz.prog 138 (stgV x l) = some kl := by
  unfold Bag.sml at h
  exact ⟨_, key_stage (wf_sml (by omega)) (wf_sml (by omega)) (wf_sml (by omega)) (wf_sml (by omega)) (wf_sml (by omega))⟩
theorem bagV_inj {x y : Bag} (h : bagV x = bagV y) : x = y := by
  simp only [Value.agg.injEq, Array.mk.injEq, List.cons.injEq, Value.int.injEq, true_and, and_true] at h
  obtain ⟨a, b, c, d⟩ := x
  obtain ⟨a', b', c', d'⟩ := y
  simp only [Bag.mk.injEq]
  exact h
theorem stgV_inj {x y : Bag} {l m : Int} (h : stgV x l = stgV y m) : x = y ∧ l = m := by
  simp only [Value.agg.injEq, Array.mk.injEq, List.cons.injEq, Value.int.injEq, true_and, and_true] at h
  obtain ⟨a, b, c, d⟩ := x
  obtain ⟨a', b', c', d'⟩ := y
  simp only [Bag.mk.injEq]
  dsimp only at h
  exact ⟨⟨h.1, h.2.1, h.2.2.1, h.2.2.2.1⟩, h.2.2.2.2⟩

/-- block b is a map of at most n bags, with numbers as f says -/
def WorthAt (w : World) (b n : Nat) (f : Bag → Int) : Prop :=
  ∃ D : DataW Unit, w.ownsMap Tryz.prog 89 (plainElem Tryz.prog 3) b n D ∧ Maps.IsMap D ∧ ∀ x kl, keyOf Tryz.prog 89 (bagV x) = some kl → D.atKey kl (.lit (.int .i64 0)) = .lit (.int .i64 (f x))
theorem int_under : Tryz.prog.underlying 3 = some (.int .i64) := by kernel_rfl
theorem worth_under : Tryz.prog.underlying 131 = some (.map 89 3) := by kernel_rfl
theorem chosen_under : Tryz.prog.underlying 135 = some (.map 138 140) := by kernel_rfl
theorem zero_int (w : World) : (zeroValue 3).run Tryz.prog w = .ok (.int .i64 0) w := by kernel_rfl
theorem zero_choice (w : World) : (zeroValue 140).run Tryz.prog w = .ok (choV (bagZ, 0)) w := by kernel_rfl

theorem WorthAt.made (w : World) : WorthAt (w.alloc (.map #[] 0)) w.heap.size 0 (fun _ => 0) := ⟨.map [], World.ownsMap_made _ _ _ _, Maps.isMap_empty, fun _ _ _ => rfl⟩
theorem WorthAt.mono {w : World} {b n m : Nat} {f : Bag → Int} (h : WorthAt w b n f) (hn : n ≤ m) : WorthAt w b m f := by
  obtain ⟨D, h1, h2, h3⟩ := h
  exact ⟨D, h1.mono hn, h2, h3⟩
theorem WorthAt.lt {w : World} {b n : Nat} {f : Bag → Int} (h : WorthAt w b n f) : b < w.heap.size := h.choose_spec.1.lt
theorem WorthAt.same {w w' : World} {b n : Nat} {f : Bag → Int} (h : WorthAt w b n f) (hb : w'.heap[b]? = w.heap[b]?) : WorthAt w' b n f := by
  obtain ⟨D, ⟨es, clock, h0, r⟩, h2, h3⟩ := h
  exact ⟨D, ⟨es, clock, hb.trans h0, r⟩, h2, h3⟩
set_option maxRecDepth 100000 in
theorem WorthAt.look {w : World} {b n : Nat} {f : Bag → Int} (h : WorthAt w b n f) {x : Bag} (hx : x.sml) : (Instr.lookup 131 (.map (some b)) (bagV x) false).run Tryz.prog w = .ok (.int .i64 (f x)) w := by
  obtain ⟨D, h1, _, h3⟩ := h
  obtain ⟨kl, hk⟩ := bag_key hx
  obtain ⟨c, hr, hc, _⟩ := h1.lookup_int bag_keyed worth_under int_under (zero_int w) hk
  rw [h3 x kl hk] at hc
  injection hc with hc
  injection hc with _ hc
  rw [hr, hc]
set_option maxRecDepth 100000 in
theorem WorthAt.put {w : World} {b n : Nat} {f : Bag → Int} (h : WorthAt w b n f) {x : Bag} (hx : x.sml) {v : Int} (hv : 0 ≤ v ∧ v ≤ 1000000) (hn : n ≤ 1000000) :
    ∃ w', (Instr.mapUpdate 131 (.map (some b)) (bagV x) (.int .i64 v)).run Tryz.prog w = .ok () w' ∧ WorthAt w' b (n + 1) (fun y => if y = x then v else f y) ∧ w.grownBy w' (some b) := by
  obtain ⟨D, h1, h2, h3⟩ := h
  obtain ⟨kl, hk⟩ := bag_key hx
  obtain ⟨w', hr, h4, h5⟩ := h1.update bag_keyed worth_under (by unfold maxLen; omega) hk (plainElem_int int_under (wf_sml hv))
  refine ⟨w', hr, ⟨_, h4, h2.put _ _, fun y ky hy => ?_⟩, h5⟩
  dsimp only
  by_cases e : y = x
  · subst e
    rw [hk] at hy
    injection hy with hy
    subst hy
    rw [Maps.atKey_put_same h2 (bag_keyed.key hk), if_pos rfl]
  · rw [Maps.atKey_put_other (fun e2 => e (bagV_inj (bag_keyed.inj hy (by rw [e2]; exact hk)))), if_neg e]
    exact h3 y ky hy

/-- how a choice reads -/
def choR (v : Value) : Option (DataW Unit × List MemPlace) :=
  match v with
  | .agg ⟨[.int .i64 a, .int .i64 b, .int .i64 c, .int .i64 d, .int .i64 n]⟩ => some (.agg [.lit (.int .i64 a), .lit (.int .i64 b), .lit (.int .i64 c), .lit (.int .i64 d), .lit (.int .i64 n)], [])
  | _ => none
def choD (c : Bag × Int) : DataW Unit := .agg [.lit (.int .i64 c.1.a), .lit (.int .i64 c.1.b), .lit (.int .i64 c.1.c), .lit (.int .i64 c.1.d), .lit (.int .i64 c.2)]
theorem choR_mk (c : Bag × Int) : choR (choV c) = some (choD c, []) := rfl
theorem choR_inv {v : Value} {c : Bag × Int} {ps : List MemPlace} (h : choR v = some (choD c, ps)) : v = choV c := by
  unfold choR at h
  split at h
  · simp only [choD, Option.some.injEq, Prod.mk.injEq, DataW.agg.injEq, List.cons.injEq, DataW.lit.injEq, Lit.int.injEq, true_and, and_true] at h
    obtain ⟨⟨rfl, rfl, rfl, rfl, rfl⟩, _⟩ := h
    rfl
  · cases h

/-- block b is a map of at most n stages, with choices as g says -/
def ChosenAt (w : World) (b n : Nat) (g : Bag → Int → Option (Bag × Int)) : Prop :=
  ∃ D : DataW Unit, w.ownsMap Tryz.prog 138 choR b n D ∧ Maps.IsMap D ∧ ∀ x l kl, keyOf Tryz.prog 138 (stgV x l) = some kl → Maps.has D kl = (g x l).isSome ∧ D.atKey kl (choD (bagZ, 0)) = choD ((g x l).getD (bagZ, 0))
theorem ChosenAt.made (w : World) : ChosenAt (w.alloc (.map #[] 0)) w.heap.size 0 (fun _ _ => none) := ⟨.map [], World.ownsMap_made _ _ _ _, Maps.isMap_empty, fun _ _ _ _ => ⟨rfl, rfl⟩⟩
theorem ChosenAt.lt {w : World} {b n : Nat} {g : Bag → Int → Option (Bag × Int)} (h : ChosenAt w b n g) : b < w.heap.size := h.choose_spec.1.lt
theorem ChosenAt.mono {w : World} {b n m : Nat} {g : Bag → Int → Option (Bag × Int)} (h : ChosenAt w b n g) (hn : n ≤ m) : ChosenAt w b m g := by
  obtain ⟨D, h1, h2, h3⟩ := h
  exact ⟨D, h1.mono hn, h2, h3⟩
theorem ChosenAt.same {w w' : World} {b n : Nat} {g : Bag → Int → Option (Bag × Int)} (h : ChosenAt w b n g) (hb : w'.heap[b]? = w.heap[b]?) : ChosenAt w' b n g := by
  obtain ⟨D, ⟨es, clock, h0, r⟩, h2, h3⟩ := h
  exact ⟨D, ⟨es, clock, hb.trans h0, r⟩, h2, h3⟩
set_option maxRecDepth 100000 in
theorem ChosenAt.look {w : World} {b n : Nat} {g : Bag → Int → Option (Bag × Int)} (h : ChosenAt w b n g) {x : Bag} {l : Int} (hx : x.sml) (hl : 0 ≤ l ∧ l ≤ 3) :
    (Instr.lookup 135 (.map (some b)) (stgV x l) true).run Tryz.prog w = .ok (.tuple #[choV ((g x l).getD (bagZ, 0)), .bool (g x l).isSome]) w := by
  obtain ⟨D, h1, _, h3⟩ := h
  obtain ⟨kl, hk⟩ := stage_key hx hl
  obtain ⟨v, ps, hr, hv⟩ := h1.look_ok stage_keyed chosen_under (zero_choice w) (choR_mk (bagZ, 0)) hk
  obtain ⟨h4, h5⟩ := h3 x l kl hk
  rw [h5] at hv
  rw [hr, choR_inv hv, h4]
set_option maxRecDepth 100000 in
theorem ChosenAt.put {w : World} {b n : Nat} {g : Bag → Int → Option (Bag × Int)} (h : ChosenAt w b n g) {x : Bag} {l : Int} (hx : x.sml) (hl : 0 ≤ l ∧ l ≤ 3) (c : Bag × Int) (hn : n ≤ 1000000000) :
    ∃ w', (Instr.mapUpdate 135 (.map (some b)) (stgV x l) (choV c)).run Tryz.prog w = .ok () w' ∧ ChosenAt w' b (n + 1) (fun y m => if y = x ∧ m = l then some c else g y m) ∧ w.grownBy w' (some b) := by
  obtain ⟨D, h1, h2, h3⟩ := h
  obtain ⟨kl, hk⟩ := stage_key hx hl
  obtain ⟨w', hr, h4, h5⟩ := h1.update stage_keyed chosen_under (by unfold maxLen; omega) hk (choR_mk c)
  refine ⟨w', hr, ⟨_, h4, h2.put _ _, fun y m ky hy => ?_⟩, h5⟩
  dsimp only
  by_cases e : y = x ∧ m = l
  · obtain ⟨rfl, rfl⟩ := e
    rw [hk] at hy
    injection hy with hy
    subst hy
    rw [Maps.atKey_put_same h2 (stage_keyed.key hk), Maps.has_put_same h2 (stage_keyed.key hk), if_pos ⟨rfl, rfl⟩]
    exact ⟨rfl, rfl⟩
  · have hne : ky ≠ kl := fun e2 => e (stgV_inj (stage_keyed.inj hy (by rw [e2]; exact hk)))
    rw [Maps.atKey_put_other hne, Maps.has_put_other hne, if_neg e]
    exact h3 y m ky hy
end Go.Proofs.YtmbkngfcbgbeiaaGreat
