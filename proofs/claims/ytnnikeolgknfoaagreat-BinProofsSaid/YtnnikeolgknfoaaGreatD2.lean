/- span, Three. -/
import Derived.Test.YtnnikeolgknfoaaGreatD1
set_option linter.unusedSimpArgs false
set_option linter.unusedVariables false
namespace Go.Proofs.YtnnikeolgknfoaaGreat
open Go.RowKit Go.Shelf

set_option maxRecDepth 100000 in
set_option maxHeartbeats 1000000 in
theorem span_fn (lo hi : Int) (W : World) : Calls Tryz.prog 67 #[.int .i64 lo, .int .i64 hi] W fun e W' => e = .returned (.agg #[.int .i64 lo, .int .i64 hi]) ∧ Below W.heap.size W W' := by
  go_enter Tryz.func67, Tryz.ntmps67
  go_wp2
  exact bodyPost_ret (v := .agg #[.int .i64 lo, .int .i64 hi]) (by simp [results, Tryz.results67, go_sem]) rfl ⟨rfl, (by repeat (first | (with_reducible first | exact Below.refl _ _ | refine Below.drew ?_ | refine below_drewN ?_ _) | ((with_reducible first | refine Lc ?_ ?_ _ | refine Ls ?_ ?_ _ | refine Lv (by assumption) ?_ ?_); · first | exact Nat.le_refl _ | omega | (simp; done) | (simp; omega) | (simp at *; omega))))⟩

theorem name_post {P : Program} {f : Func} {Q : Ending → World → Prop} {ex : Exit} {a : Act} {w : World} (h : ∀ w', w' = w → bodyPost P f Q ex a w') : bodyPost P f Q ex a w := h w rfl
theorem cell_blk {w : World} {b i : Nat} {cs : Array Value} {T : TypeId} {fz : Nat × Nat} {v : Value} (h : w.heap[b]? = some (.cells cs T fz)) (hv : cs[i]? = some v := by rfl) : w.cell? ⟨b, i, none⟩ = some v := by
  simp [World.cell?, h, hv]
theorem heap_new3 (w : World) (a b c : Obj) : (((w.alloc a).alloc b).alloc c).heap[w.heap.size + 1 + 1]? = some c := by
  have h := heap_alloc_new ((w.alloc a).alloc b) c
  rwa [World.size_alloc, World.size_alloc] at h
theorem cell3 {w : World} {ad : Addr} {v : Value} (h : w.cell? ad = some v) (a b c : Obj) : (((w.alloc a).alloc b).alloc c).cell? ad = some v := Ka _ (Ka _ (Ka _ h))
theorem fro3 {w : World} {ad : Addr} (hl : ad.block < w.heap.size) (h : w.frozen? ad = false) (a b c : Obj) : (((w.alloc a).alloc b).alloc c).frozen? ad = false := Fa _ (by simp; omega) (Fa _ (by simp; omega) (Fa _ hl h))
set_option maxRecDepth 100000 in
set_option maxHeartbeats 4000000 in
theorem Three_any (W : World) : Calls Tryz.prog 66 #[] W fun e W' => ∃ b d v, e = .returned (rwV (some ⟨b, 0, none⟩) 3 3 (some ⟨d, 0, none⟩) 3 3 (some ⟨v, 0, none⟩) 1 1) ∧
    RwRow W' W'.heap.size rw3 (some ⟨b, 0, none⟩) 3 (some ⟨d, 0, none⟩) 3 (some ⟨v, 0, none⟩) 1 ∧ W'.ownsRow W.heap.size 101 4 (.slice (some ⟨v, 0, none⟩) 1 1) 1 [.int .i64 0, .int .i64 1, .int .i64 60, .int .i64 4] ∧ (b < v ∧ d < v) ∧ Below W.heap.size W W' := by
  go_enter Tryz.func66, Tryz.ntmps66
  go_upto_region 1 with fail
  refine wp_world (fun W1 => (W1.cell? ⟨W.heap.size, 0, none⟩ = some (.slice none 0 0) ∧ W1.cell? ⟨W.heap.size, 1, none⟩ = some (.slice none 0 0) ∧ W1.cell? ⟨W.heap.size, 2, none⟩ = some (.slice none 0 0)) ∧ (W1.frozen? ⟨W.heap.size, 0, none⟩ = false ∧ W1.frozen? ⟨W.heap.size, 1, none⟩ = false ∧ W1.frozen? ⟨W.heap.size, 2, none⟩ = false) ∧ Below W.heap.size W W1) ⟨(by (repeat' refine And.intro ?_ ?_) <;> (repeat (first | with_reducible assumption | (simp; done) | (with_reducible first | refine Kd ?_ | refine Kn ?_ | refine Kb (by assumption) ?_) | ((with_reducible first | refine Kw ?_ ?_ | refine Fw ?_) <;> first | with_reducible rfl | (simp; done)) | (with_reducible first | refine Ka _ ?_ | refine Ks _ (by first | exact Nat.le_refl _ | omega | (simp; done) | (simp; omega)) ?_ | refine Fd ?_ | refine Fn ?_ | refine Fb (by assumption) (by first | exact Nat.le_refl _ | omega | (simp; done) | (simp; omega)) ?_ | refine Fa _ (by first | exact Nat.le_refl _ | omega | (simp; done) | (simp; omega)) ?_ | refine Fs _ ?_)))), (by (repeat' refine And.intro ?_ ?_) <;> (repeat (first | with_reducible assumption | (simp; done) | (with_reducible first | refine Kd ?_ | refine Kn ?_ | refine Kb (by assumption) ?_) | ((with_reducible first | refine Kw ?_ ?_ | refine Fw ?_) <;> first | with_reducible rfl | (simp; done)) | (with_reducible first | refine Ka _ ?_ | refine Ks _ (by first | exact Nat.le_refl _ | omega | (simp; done) | (simp; omega)) ?_ | refine Fd ?_ | refine Fn ?_ | refine Fb (by assumption) (by first | exact Nat.le_refl _ | omega | (simp; done) | (simp; omega)) ?_ | refine Fa _ (by first | exact Nat.le_refl _ | omega | (simp; done) | (simp; omega)) ?_ | refine Fs _ ?_)))), (by repeat (first | (with_reducible first | exact Below.refl _ _ | assumption | refine Below.drew ?_) | ((with_reducible first | refine Lc ?_ ?_ _ | refine Ls ?_ ?_ _ | refine Lv (by assumption) ?_ ?_); · first | exact Nat.le_refl _ | omega | (dsimp only; omega) | (simp only [World.size_alloc, World.size_drew, World.heap_drewN]; omega) | (simp; omega))))⟩ ?_
  rintro w0 ⟨⟨z0, z1, z2⟩, ⟨f0, f1, f2⟩, hb0⟩
  have hs0 := World.block_lt_of_cell? w0 _ z0
  have HZ0 := Lib.hid (And.intro z0 (And.intro z1 (And.intro z2 (And.intro f0 (And.intro f1 f2)))))
  have HB0 := Lib.hid (Below.refl w0.heap.size w0)
  have HW0 := Lib.hid hb0
  clear z0 z1 z2 f0 f1 f2 hb0
  go_wp2_with fail
  refine (span_fn _ _ _).mono ?_
  rintro e w1 ⟨rfl, hb1⟩
  have HB1 := Lib.hid (HB0.out.trans (hb1.mono HB0.out.size))
  clear hb1
  go_wp2_with fail
  refine (span_fn _ _ _).mono ?_
  rintro e w2 ⟨rfl, hb2⟩
  have HB2 := Lib.hid (HB1.out.trans (hb2.mono HB1.out.size))
  clear hb2
  go_wp2_with fail
  refine (span_fn _ _ _).mono ?_
  rintro e w3 ⟨rfl, hb3⟩
  have HB3 := Lib.hid (HB2.out.trans (hb3.mono HB2.out.size))
  clear hb3
  go_wp2_with fail
  refine (span_fn _ _ _).mono ?_
  rintro e w4 ⟨rfl, hb4⟩
  have HB4 := Lib.hid (HB3.out.trans (hb4.mono HB3.out.size))
  clear hb4
  go_wp2_with fail
  refine (span_fn _ _ _).mono ?_
  rintro e w5 ⟨rfl, hb5⟩
  have HB5 := Lib.hid (HB4.out.trans (hb5.mono HB4.out.size))
  clear hb5
  go_wp2_with fail
  refine (span_fn _ _ _).mono ?_
  rintro e w6 ⟨rfl, hb6⟩
  have HB6 := Lib.hid (HB5.out.trans (hb6.mono HB5.out.size))
  clear hb6
  obtain ⟨z0, z1, z2, f0, f1, f2⟩ := HZ0.out
  have s0 := Kb HB6.out z0
  have s1 := Kb HB6.out z1
  have s2 := Kb HB6.out z2
  have g0 := fro_below_cell HB6.out z0 f0
  have g1 := fro_below_cell HB6.out z1 f1
  have g2 := fro_below_cell HB6.out z2 f2
  have hs6 : W.heap.size < w6.heap.size := Nat.lt_of_lt_of_le hs0 HB6.out.size
  have HB := Lib.hid (HW0.out.trans (HB6.out.mono (by have := HW0.out.size; omega)))
  have q0 := cell3 s0
  have q1 := cell3 s1
  have q2 := cell3 s2
  have p0 := fro3 (ad := ⟨W.heap.size, 0, none⟩) hs6 g0
  have p1 := fro3 (ad := ⟨W.heap.size, 1, none⟩) hs6 g1
  have p2 := fro3 (ad := ⟨W.heap.size, 2, none⟩) hs6 g2
  clear z0 z1 z2 f0 f1 f2 HB0 HB1 HB2 HB3 HB4 HB5 s0 s1 s2 g0 g1 g2
  go_wp2_with fail
  refine name_post ?_
  intro w' hw
  have hz : w'.heap.size = w6.heap.size + 1 + 1 + 1 := by rw [hw]; simp only [World.setCell, Array.size_modify, World.size_alloc]
  have hB : w'.cell? ⟨w6.heap.size, 0, none⟩ = some (.int .i64 5) ∧ w'.cell? ⟨w6.heap.size, 1, none⟩ = some (.int .i64 10) ∧ w'.cell? ⟨w6.heap.size, 2, none⟩ = some (.int .i64 20) ∧ w'.cell? ⟨w6.heap.size, 3, none⟩ = some (.int .i64 40) ∧ w'.cell? ⟨w6.heap.size, 4, none⟩ = some (.int .i64 0) ∧ w'.cell? ⟨w6.heap.size, 5, none⟩ = some (.int .i64 0) ∧ w'.cell? ⟨w6.heap.size, 6, none⟩ = some (.int .i64 0) ∧ w'.cell? ⟨w6.heap.size, 7, none⟩ = some (.int .i64 0) ∧ w'.cell? ⟨w6.heap.size, 8, none⟩ = some (.int .i64 20) ∧ w'.cell? ⟨w6.heap.size, 9, none⟩ = some (.int .i64 10) ∧ w'.cell? ⟨w6.heap.size, 10, none⟩ = some (.int .i64 30) ∧ w'.cell? ⟨w6.heap.size, 11, none⟩ = some (.int .i64 0) ∧ w'.cell? ⟨w6.heap.size, 12, none⟩ = some (.int .i64 0) ∧ w'.cell? ⟨w6.heap.size, 13, none⟩ = some (.int .i64 0) ∧ w'.cell? ⟨w6.heap.size, 14, none⟩ = some (.int .i64 4) ∧ w'.cell? ⟨w6.heap.size, 15, none⟩ = some (.int .i64 6) ∧ w'.cell? ⟨w6.heap.size, 16, none⟩ = some (.int .i64 8) ∧ w'.cell? ⟨w6.heap.size, 17, none⟩ = some (.int .i64 12) ∧ w'.cell? ⟨w6.heap.size, 18, none⟩ = some (.int .i64 0) ∧ w'.cell? ⟨w6.heap.size, 19, none⟩ = some (.int .i64 0) ∧ w'.cell? ⟨w6.heap.size, 20, none⟩ = some (.int .i64 2) := by
    rw [hw]; exact (by (repeat' refine And.intro ?_ ?_) <;> (repeat (first | with_reducible assumption | (simp; done) | (with_reducible first | refine Kd ?_ | refine Kn ?_ | refine Kb (by assumption) ?_) | ((with_reducible first | refine Kw ?_ ?_ | refine Fw ?_) <;> first | with_reducible rfl | (simp; done)) | (with_reducible first | refine Ka _ ?_ | refine Ks _ (by first | exact Nat.le_refl _ | omega | (simp; done) | (simp; omega)) ?_ | refine Fd ?_ | refine Fn ?_ | refine Fb (by assumption) (by first | exact Nat.le_refl _ | omega | (simp; done) | (simp; omega)) ?_ | refine Fa _ (by first | exact Nat.le_refl _ | omega | (simp; done) | (simp; omega)) ?_ | refine Fs _ ?_))))
  have hD : w'.cell? ⟨w6.heap.size + 1, 0, none⟩ = some (.int .i64 0) ∧ w'.cell? ⟨w6.heap.size + 1, 1, none⟩ = some (.int .i64 0) ∧ w'.cell? ⟨w6.heap.size + 1, 2, none⟩ = some (.int .i64 1) := by
    rw [hw]; exact (by (repeat' refine And.intro ?_ ?_) <;> (repeat (first | with_reducible assumption | (simp; done) | (with_reducible first | refine Kd ?_ | refine Kn ?_ | refine Kb (by assumption) ?_) | ((with_reducible first | refine Kw ?_ ?_ | refine Fw ?_) <;> first | with_reducible rfl | (simp; done)) | (with_reducible first | refine Ka _ ?_ | refine Ks _ (by first | exact Nat.le_refl _ | omega | (simp; done) | (simp; omega)) ?_ | refine Fd ?_ | refine Fn ?_ | refine Fb (by assumption) (by first | exact Nat.le_refl _ | omega | (simp; done) | (simp; omega)) ?_ | refine Fa _ (by first | exact Nat.le_refl _ | omega | (simp; done) | (simp; omega)) ?_ | refine Fs _ ?_))))
  have hV : w'.heap[w6.heap.size + 1 + 1]? = some (.cells #[.int .i64 0, .int .i64 1, .int .i64 60, .int .i64 4] 101 (0, 0)) := by
    rw [hw]
    refine (set_heap _ (by dsimp only; omega)).trans ((set_heap _ (by dsimp only; omega)).trans ((set_heap _ (by dsimp only; omega)).trans ?_))
    exact heap_new3 _ _ _ _
  have hR : w'.cell? ⟨W.heap.size, 0, none⟩ = some (.slice (some ⟨w6.heap.size, 0, none⟩) 3 3) ∧ w'.cell? ⟨W.heap.size, 1, none⟩ = some (.slice (some ⟨w6.heap.size + 1, 0, none⟩) 3 3) ∧ w'.cell? ⟨W.heap.size, 2, none⟩ = some (.slice (some ⟨w6.heap.size + 1 + 1, 0, none⟩) 1 1) := by
    rw [hw]
    refine ⟨by simp [go_sem, q0], by simp [go_sem, q0, q1], by simp [go_sem, q0, q1, q2]⟩
  have hBel : Below W.heap.size W w' := by
    have h := HB.out
    rw [hw]
    exact (by repeat (first | (with_reducible first | exact Below.refl _ _ | assumption | refine Below.drew ?_) | ((with_reducible first | refine Lc ?_ ?_ _ | refine Ls ?_ ?_ _ | refine Lv (by assumption) ?_ ?_); · first | exact Nat.le_refl _ | omega | (dsimp only; omega) | (simp only [World.size_alloc, World.size_drew, World.heap_drewN]; omega) | (simp; omega))))
  clear hw q0 q1 q2 p0 p1 p2
  obtain ⟨e0, e1, e2⟩ := hR
  have hVc : w'.cell? ⟨w6.heap.size + 1 + 1, 0, none⟩ = some (.int .i64 0) ∧ w'.cell? ⟨w6.heap.size + 1 + 1, 1, none⟩ = some (.int .i64 1) ∧ w'.cell? ⟨w6.heap.size + 1 + 1, 2, none⟩ = some (.int .i64 60) ∧ w'.cell? ⟨w6.heap.size + 1 + 1, 3, none⟩ = some (.int .i64 4) := ⟨cell_blk hV, cell_blk hV, cell_blk hV, cell_blk hV⟩
  obtain ⟨b0, b1, b2, b3, b4, b5, b6, b7, b8, b9, b10, b11, b12, b13, b14, b15, b16, b17, b18, b19, b20⟩ := hB
  refine bodyPost_ret (v := rwV (some ⟨w6.heap.size, 0, none⟩) 3 3 (some ⟨w6.heap.size + 1, 0, none⟩) 3 3 (some ⟨w6.heap.size + 1 + 1, 0, none⟩) 1 1) (by simp [results, Tryz.results66, go_sem, e0, e1, e2]) rfl ⟨_, _, _, rfl, ⟨Nat.le_refl _, fun k hk => ?_, fun k hk => ?_, fun k hk => ?_, by decide, by decide, by decide, by decide, by decide, by decide⟩, ⟨rfl, .inr ⟨_, 1, _, rfl, by omega, hV, Nat.le_refl _, by decide, rfl, rfl⟩⟩, by omega, hBel⟩
  · refine ⟨_, _, rfl, by omega, ?_⟩
    match k, hk with
    | 0, _ => exact ⟨b0, b1, b2, b3, b4, b5, b6⟩
    | 1, _ => exact ⟨b7, b8, b9, b10, b11, b12, b13⟩
    | 2, _ => exact ⟨b14, b15, b16, b17, b18, b19, b20⟩
    | k + 3, h => exact absurd h (by show ¬ k + 3 < 3; omega)
  · refine ⟨_, _, rfl, by omega, ?_⟩
    match k, hk with
    | 0, _ => exact hD.1
    | 1, _ => exact hD.2.1
    | 2, _ => exact hD.2.2
    | k + 3, h => exact absurd h (by show ¬ k + 3 < 3; omega)
  · refine ⟨_, _, rfl, by omega, ?_⟩
    match k, hk with
    | 0, _ => exact hVc
    | k + 1, h => exact absurd h (by show ¬ k + 1 < 1; omega)
end Go.Proofs.YtnnikeolgknfoaaGreat
