/- bin.without. -/
import Derived.Test.YtnnikeolgknfoaaGreatC1
set_option linter.unusedSimpArgs false
set_option linter.unusedVariables false
namespace Go.Proofs.YtnnikeolgknfoaaGreat
open Go.RowKit Go.Shelf

@[go_sem ↓] theorem eqWg (x y : Wg) (w : World) : (binOp .eql 101 (wgV x) (wgV y)).run Tryz.prog w = .ok (.bool (decide (x = y))) w := by
  obtain ⟨a, b, c, d⟩ := x
  obtain ⟨a', b', c', d'⟩ := y
  have e : decide ((⟨a, b, c, d⟩ : Wg) = ⟨a', b', c', d'⟩) = ((a == a') && ((b == b') && ((c == c') && (d == d')))) := by
    rw [Bool.eq_iff_iff]
    simp [Wg.mk.injEq]
  rw [e]
  cases e0 : a == a' <;> cases e1 : b == b' <;> cases e2 : c == c' <;> cases e3 : d == d' <;> simp [go_sem, e0, e1, e2, e3]
theorem twk_bool (l : List Wg) (x : Wg) (k : Nat) : twk l x (k + 1) = if twk l x k = true then true else decide (l.getD k wg0 = x) := by
  show (twk l x k || decide (l.getD k wg0 = x)) = _
  cases twk l x k <;> simp
theorem wthL_yes {V : Nat → Wg} {out : Nat → Bool} {k : Nat} (h1 : out k = false) (h2 : twk (wthL V out k) (V k) (wthL V out k).length = false) : wthL V out (k + 1) = wthL V out k ++ [V k] := by
  show (if (!out k && !twk (wthL V out k) (V k) (wthL V out k).length) = true then _ else _) = _
  rw [h1, h2]
  exact if_pos rfl
theorem wthL_no {V : Nat → Wg} {out : Nat → Bool} {k : Nat} (h : out k = true ∨ twk (wthL V out k) (V k) (wthL V out k).length = true) : wthL V out (k + 1) = wthL V out k := by
  show (if (!out k && !twk (wthL V out k) (V k) (wthL V out k).length) = true then _ else _) = _
  rw [if_neg]
  rcases h with h | h <;> simp [h]

set_option maxRecDepth 100000 in
set_option maxHeartbeats 4000000 in
theorem without_any (r : Rw) (out : Nat → Bool) (mb nn : Nat) (bA dA vA : Option Addr) (bc dc vc : Nat) (W : World) (hrow : RwRow W W.heap.size r bA bc dA dc vA vc) (hm : LeftAt W mb nn out) :
    Calls Tryz.prog 72 #[rwV bA r.n bc dA r.d dc vA r.m vc, .map (some mb)] W fun e W' => ∃ A c, e = .returned (rwV bA r.n bc dA r.d dc A (r.wo out).m c) ∧ RwRow W' W'.heap.size (r.wo out) bA bc dA dc A c ∧ Below W.heap.size W W' := by
  have H0 := Lib.hid hrow
  have HM0 := Lib.hid hm
  have hm1 := hrow.m1
  have hmlt := hm.lt
  clear hrow hm
  obtain ⟨i0, hi, hz0, hz1, hz2⟩ := info_parts infoWg
  go_enter Tryz.func72, Tryz.ntmps72
  go_upto_region 2 with fail
  refine wp_world (fun W1 => (W1.cell? ⟨W.heap.size, 0, none⟩ = some (.slice bA r.n bc) ∧ W1.cell? ⟨W.heap.size, 1, none⟩ = some (.slice dA r.d dc) ∧ W1.cell? ⟨W.heap.size, 2, none⟩ = some (.slice vA r.m vc) ∧ W1.frozen? ⟨W.heap.size, 2, none⟩ = false) ∧ ((W1.cell? ⟨W.heap.size + 1, 0, none⟩ = some (.slice none 0 0) ∧ W1.cell? ⟨W.heap.size + 1, 1, none⟩ = some (.slice none 0 0) ∧ W1.cell? ⟨W.heap.size + 1, 2, none⟩ = some (.slice none 0 0)) ∧ W1.frozen? ⟨W.heap.size + 1, 0, none⟩ = false ∧ W1.frozen? ⟨W.heap.size + 1, 1, none⟩ = false ∧ W1.frozen? ⟨W.heap.size + 1, 2, none⟩ = false) ∧ Below W.heap.size W W1 ∧ W1.heap.size = W.heap.size + 2) ⟨(by (repeat' refine And.intro ?_ ?_) <;> (repeat (first | with_reducible assumption | (simp; done) | (with_reducible first | refine Kd ?_ | refine Kn ?_ | refine Kb (by assumption) ?_) | ((with_reducible first | refine Kw ?_ ?_ | refine Fw ?_) <;> first | with_reducible rfl | (simp; done)) | (with_reducible first | refine Ka _ ?_ | refine Ks _ (by first | exact Nat.le_refl _ | omega | (simp; done) | (simp; omega)) ?_ | refine Fd ?_ | refine Fn ?_ | refine Fb (by assumption) (by first | exact Nat.le_refl _ | omega | (simp; done) | (simp; omega)) ?_ | refine Fa _ (by first | exact Nat.le_refl _ | omega | (simp; done) | (simp; omega)) ?_ | refine Fs _ ?_)))), (by (repeat' refine And.intro ?_ ?_) <;> (repeat (first | with_reducible assumption | (simp; done) | (with_reducible first | refine Kd ?_ | refine Kn ?_ | refine Kb (by assumption) ?_) | ((with_reducible first | refine Kw ?_ ?_ | refine Fw ?_) <;> first | with_reducible rfl | (simp; done)) | (with_reducible first | refine Ka _ ?_ | refine Ks _ (by first | exact Nat.le_refl _ | omega | (simp; done) | (simp; omega)) ?_ | refine Fd ?_ | refine Fn ?_ | refine Fb (by assumption) (by first | exact Nat.le_refl _ | omega | (simp; done) | (simp; omega)) ?_ | refine Fa _ (by first | exact Nat.le_refl _ | omega | (simp; done) | (simp; omega)) ?_ | refine Fs _ ?_)))), (by repeat (first | (with_reducible first | exact Below.refl _ _ | assumption | refine Below.drew ?_) | ((with_reducible first | refine Lc ?_ ?_ _ | refine Ls ?_ ?_ _ | refine Lv (by assumption) ?_ ?_); · first | exact Nat.le_refl _ | omega | (dsimp only; omega) | (simp only [World.size_alloc, World.size_drew, World.heap_drewN]; omega) | (simp; omega)))), by simp⟩ ?_
  rintro w1 ⟨⟨c0, c1, c2, cf⟩, ⟨⟨r0, r1, r2⟩, f0, f1, f2⟩, hb1, hs1⟩
  have HC := Lib.hid (And.intro c0 (And.intro c1 (And.intro c2 cf)))
  have HZ := Lib.hid (And.intro r0 (And.intro r1 (And.intro r2 (And.intro f0 (And.intro f1 f2)))))
  have HB1 := Lib.hid hb1
  have hsz1 : W.heap.size + 1 < w1.heap.size := by omega
  clear hs1 hb1 c0 c1 r0 r1 r2 f0 f1 f2 cf
  go_wp2_with fail
  clear c2
  go_loopw [5, 14] (fun l i wr => ∃ (k : Nat) (A : Option Addr) (c : Nat), k ≤ r.m ∧ i = .int .i64 k ∧ l = .slice A (wthL r.V out k).length c ∧ Hid (wr.ownsRow w1.heap.size 101 4 (.slice A (wthL r.V out k).length c) (wthL r.V out k).length (wgL (wthL r.V out k))) ∧ Hid (Below w1.heap.size w1 wr)) (fun _ i _ => r.m - (intOf i).toNat)
  case atStart => exact ⟨0, none, 0, Nat.zero_le _, rfl, rfl, Lib.hid (World.ownsRow_nil _ _ _ _), Lib.hid (Below.refl _ _)⟩
  case round =>
    obtain ⟨k, A, c, hk, rfl, rfl, HO, HB⟩ := hrel
    obtain ⟨A', c', he, how, hcl⟩ := OwnWg.of (P := fun j => (wthL r.V out k).getD j wg0) (by rw [← wgL_row]; exact HO.out)
    injection he with e1 _ e2
    subst e1 e2
    have HWG := Lib.hid how.row
    have HOW := Lib.hid how
    have hlen := wthL_len r.V out k
    have hsr := HB.out.size
    clear how
    by_cases hlt : k < r.m
    · have hkn : (k : Int) < (r.m : Int) := by omega
      have hk0 : (0 : Int) ≤ (k : Int) := by omega
      have ek : IntKind.i64.wrap ((k : Int) + 1) = (k : Int) + 1 := IntWalk.i64_in _ (by omega)
      obtain ⟨wo, rfl⟩ : ∃ wo, wo = wr := ⟨_, rfl⟩
      obtain ⟨b, o, rfl, hbv, v0, v1, v2, v3⟩ := (H0.out.later (HB1.out.trans (HB.out.mono (by omega)))).v k hlt
      obtain ⟨X, hX⟩ : ∃ X, X = r.V k := ⟨_, rfl⟩
      rw [← hX] at v0 v1 v2 v3
      obtain ⟨l, hl⟩ : ∃ l, l = wthL r.V out k := ⟨_, rfl⟩
      rw [← hl] at HO HWG hlen hcl ⊢
      have HX := Lib.hid hX
      have HL := Lib.hid hl
      clear hX hl
      go_upto_region 5 with fail
      refine wp_world (fun W2 => (W2.cell? ⟨wo.heap.size, 0, none⟩ = some (.int .i64 X.f) ∧ W2.cell? ⟨wo.heap.size, 1, none⟩ = some (.int .i64 X.t) ∧ W2.cell? ⟨wo.heap.size, 2, none⟩ = some (.int .i64 X.p) ∧ W2.cell? ⟨wo.heap.size, 3, none⟩ = some (.int .i64 X.e)) ∧ Below wo.heap.size wo W2 ∧ wo.heap.size < W2.heap.size) ⟨(by (repeat' refine And.intro ?_ ?_) <;> (repeat (first | with_reducible assumption | (simp; done) | (with_reducible first | refine Kd ?_ | refine Kn ?_ | refine Kb (by assumption) ?_) | ((with_reducible first | refine Kw ?_ ?_ | refine Fw ?_) <;> first | with_reducible rfl | (simp; done)) | (with_reducible first | refine Ka _ ?_ | refine Ks _ (by first | exact Nat.le_refl _ | omega | (simp; done) | (simp; omega)) ?_ | refine Fd ?_ | refine Fn ?_ | refine Fb (by assumption) (by first | exact Nat.le_refl _ | omega | (simp; done) | (simp; omega)) ?_ | refine Fa _ (by first | exact Nat.le_refl _ | omega | (simp; done) | (simp; omega)) ?_ | refine Fs _ ?_)))), (by repeat (first | (with_reducible first | exact Below.refl _ _ | assumption | refine Below.drew ?_) | ((with_reducible first | refine Lc ?_ ?_ _ | refine Ls ?_ ?_ _ | refine Lv (by assumption) ?_ ?_); · first | exact Nat.le_refl _ | omega | (dsimp only; omega) | (simp only [World.size_alloc, World.size_drew, World.heap_drewN]; omega) | (simp; omega)))), by simp⟩ ?_
      rintro w2 ⟨hx, hb2, hs2⟩
      have HX2 := Lib.hid hx
      have HB2 := Lib.hid hb2
      clear hx hb2 v0 v1 v2 v3
      go_wp2_with fail
      go_loopw [8, 21] (fun t i wr => ∃ q : Nat, q ≤ l.length ∧ i = .int .i64 q ∧ t = .bool (twk l X q) ∧ Hid (Below w2.heap.size w2 wr)) (fun _ i _ => l.length - (intOf i).toNat)
      case atStart => exact ⟨0, Nat.zero_le _, rfl, rfl, Lib.hid (Below.refl _ _)⟩
      case round =>
        obtain ⟨q, hq, rfl, rfl, HB3⟩ := hrel
        have hs3 := HB3.out.size
        have HBA := Lib.hid (HB2.out.trans (HB3.out.mono (by omega)))
        have hx := HX2.out
        have x0 := Kb HB3.out hx.1
        have x1 := Kb HB3.out hx.2.1
        have x2 := Kb HB3.out hx.2.2.1
        have x3 := Kb HB3.out hx.2.2.2
        clear hx
        by_cases hlq : q < l.length
        · have hqn : (q : Int) < (l.length : Int) := by omega
          have hq0 : (0 : Int) ≤ (q : Int) := by omega
          have eq1 : IntKind.i64.wrap ((q : Int) + 1) = (q : Int) + 1 := IntWalk.i64_in _ (by omega)
          obtain ⟨wp, rfl⟩ : ∃ wp, wp = wr := ⟨_, rfl⟩
          obtain ⟨b', o', rfl, hbq, q0, q1, q2, q3⟩ := (HWG.out.below HBA.out) q hlq
          obtain ⟨Y, hY⟩ : ∃ Y, Y = l.getD q wg0 := ⟨_, rfl⟩
          have HS : Hid (twk l X (q + 1) = if twk l X q = true then true else decide (Y = X)) := Lib.hid (by rw [hY]; exact twk_bool l X q)
          dsimp only at q0 q1 q2 q3
          rw [← hY] at q0 q1 q2 q3
          clear hY
          cases ht : twk l X q with
          | true =>
            have HS2 : Hid (twk l X (q + 1) = true) := Lib.hid (by rw [HS.out, if_pos ht])
            go_wp2_with fail
            go_roundw
            case rel => exact ⟨q + 1, by omega, by go_num, by rw [HS2.out], Lib.hid (by have h := HB3.out; exact (by repeat (first | (with_reducible first | exact Below.refl _ _ | assumption | refine Below.drew ?_) | ((with_reducible first | refine Lc ?_ ?_ _ | refine Ls ?_ ?_ _ | refine Lv (by assumption) ?_ ?_); · first | exact Nat.le_refl _ | omega | (dsimp only; omega) | (simp only [World.size_alloc, World.size_drew, World.heap_drewN]; omega) | (simp; omega)))))⟩
            case measure => simp [intOf]; omega
          | false =>
            have HS2 : Hid (twk l X (q + 1) = decide (Y = X)) := Lib.hid (by rw [HS.out, if_neg (by rw [ht]; decide)])
            go_wp2_with fail
            go_roundw
            case rel => exact ⟨q + 1, by omega, by go_num, by rw [HS2.out], Lib.hid (by have h := HB3.out; exact (by repeat (first | (with_reducible first | exact Below.refl _ _ | assumption | refine Below.drew ?_) | ((with_reducible first | refine Lc ?_ ?_ _ | refine Ls ?_ ?_ _ | refine Lv (by assumption) ?_ ?_); · first | exact Nat.le_refl _ | omega | (dsimp only; omega) | (simp only [World.size_alloc, World.size_drew, World.heap_drewN]; omega) | (simp; omega)))))⟩
            case measure => simp [intOf]; omega
        · obtain rfl : q = l.length := by omega
          have hge : ¬ (l.length : Int) < (l.length : Int) := by omega
          obtain ⟨wp, rfl⟩ : ∃ wp, wp = wr := ⟨_, rfl⟩
          have hbm : Below W.heap.size W wp := HB1.out.trans ((HB.out.trans (HBA.out.mono (by omega))).mono (by omega))
          have hlk := (HM0.out.later hbm).look (x := k) (by omega)
          clear hbm
          cases ho : out k with
          | true =>
            have HW2 := Lib.hid (wthL_no (V := r.V) (out := out) (k := k) (.inl ho))
            rw [ho] at hlk
            go_wp2_with fail
            refine ⟨?_, ?measure⟩
            case measure => simp [intOf]; omega
            exact ⟨k + 1, _, _, by omega, by go_num, by rw [HW2.out, ← HL.out], Lib.hid (by rw [HW2.out, ← HL.out]; exact owns_later HO.out HBA.out), Lib.hid (HB.out.trans (HBA.out.mono hsr))⟩
          | false =>
            rw [ho] at hlk
            cases ht : twk l X l.length with
            | true =>
              have HW2 := Lib.hid (wthL_no (V := r.V) (out := out) (k := k) (.inr (by rw [← HL.out, ← HX.out]; exact ht)))
              go_wp2_with fail
              refine ⟨?_, ?measure⟩
              case measure => simp [intOf]; omega
              exact ⟨k + 1, _, _, by omega, by go_num, by rw [HW2.out, ← HL.out], Lib.hid (by rw [HW2.out, ← HL.out]; exact owns_later HO.out HBA.out), Lib.hid (HB.out.trans (HBA.out.mono hsr))⟩
            | false =>
              have HW2 := Lib.hid (wthL_yes (V := r.V) (out := out) (k := k) ho (by rw [← HL.out, ← HX.out]; exact ht))
              have HOP := Lib.hid (owns_later HO.out HBA.out)
              have hv1 := HOP.out.lt
              have hsA := HBA.out.size
              go_upto_region 13 with (at_builtin; refine wpList_append_lies _ rfl (.tmp 40) (.tmp 42) 24 rfl w1.heap.size 101 i0 (.agg #[.int .i64 0, .int .i64 0, .int .i64 0, .int .i64 0]) 4 32 wgs_under hi hz0 hz1 hz2 rfl (by decide) (.slice A l.length c) l.length (wgL l) rfl (HOP.out.alloc _) ⟨wp.heap.size, 0, none⟩ 1 1 (wgC X) rfl rfl (new_cells (cs := wgC X)) (wgC_one X) (by omega) (by unfold maxLen; omega) (by omega) (by simp; omega) (wp.heap.size + 1) (by simp) ?_; intro g cap w6 hown6 hgr6 hat6 hlt6)
              have hB6 : Below w1.heap.size wo w6 := Below.grown ((HBA.out.mono hsr).alloc (by omega) _) hgr6 (by simp; omega) (fun q hq => (hv1 q hq).1)
              have HO6 := Lib.hid hown6
              have HB6 := Lib.hid (HB.out.trans hB6)
              clear hown6 hgr6 hat6 hlt6 hB6 hlk x0 x1 x2 x3
              go_wp2_with fail
              refine ⟨?_, ?measure⟩
              case measure => simp [intOf]; omega
              exact ⟨k + 1, some ⟨g, 0, none⟩, cap, by omega, by go_num, by rw [HW2.out, ← HL.out]; simp, Lib.hid (by rw [HW2.out, ← HL.out, wgL_snoc, List.length_append, ← HX.out]; exact HO6.out), HB6⟩
    · obtain rfl : k = r.m := by omega
      have hge : ¬ (r.m : Int) < (r.m : Int) := by omega
      obtain ⟨c0, c1, c2, cf⟩ := HC.out
      obtain ⟨r0, r1, r2, f0, f1, f2⟩ := HZ.out
      obtain ⟨wo, rfl⟩ : ∃ wo, wo = wr := ⟨_, rfl⟩
      have d0 := Kb HB.out c0
      have d1 := Kb HB.out c1
      have d2 := Kb HB.out c2
      have df := fro_below_cell HB.out c2 cf
      have s0 := Kb HB.out r0
      have s1 := Kb HB.out r1
      have s2 := Kb HB.out r2
      have g0 := fro_below_cell HB.out r0 f0
      have g1 := fro_below_cell HB.out r1 f1
      have g2 := fro_below_cell HB.out r2 f2
      have HBW := Lib.hid (HB1.out.trans (HB.out.mono (by omega)))
      clear c0 c1 c2 cf r0 r1 r2 f0 f1 f2
      go_wp2_with fail
      have hbf : Below W.heap.size W ((((wo.setCell ⟨W.heap.size, 2, none⟩ (.slice A (wthL r.V out r.m).length c)).setCell ⟨W.heap.size + 1, 0, none⟩ (.slice bA r.n bc)).setCell ⟨W.heap.size + 1, 1, none⟩ (.slice dA r.d dc)).setCell ⟨W.heap.size + 1, 2, none⟩ (.slice A (wthL r.V out r.m).length c)) := (((HBW.out.setCell (by dsimp only; omega) _).setCell (by dsimp only; omega) _).setCell (by dsimp only; omega) _).setCell (by dsimp only; omega) _
      refine bodyPost_ret (v := rwV bA r.n bc dA r.d dc A (wthL r.V out r.m).length c) (by simp [results, Tryz.results72, go_sem, s0, s1, s2]) rfl ⟨A, c, rfl, ?_, hbf⟩
      have hr := H0.out.later hbf
      have hs9 : ((((wo.setCell ⟨W.heap.size, 2, none⟩ (.slice A (wthL r.V out r.m).length c)).setCell ⟨W.heap.size + 1, 0, none⟩ (.slice bA r.n bc)).setCell ⟨W.heap.size + 1, 1, none⟩ (.slice dA r.d dc)).setCell ⟨W.heap.size + 1, 2, none⟩ (.slice A (wthL r.V out r.m).length c)).heap.size = wo.heap.size := by simp only [World.setCell, Array.size_modify]
      have how := HOW.out.keep (w' := ((((wo.setCell ⟨W.heap.size, 2, none⟩ (.slice A (wthL r.V out r.m).length c)).setCell ⟨W.heap.size + 1, 0, none⟩ (.slice bA r.n bc)).setCell ⟨W.heap.size + 1, 1, none⟩ (.slice dA r.d dc)).setCell ⟨W.heap.size + 1, 2, none⟩ (.slice A (wthL r.V out r.m).length c))) (fun g h1 h2 => (set_heap _ (by dsimp only; omega)).trans ((set_heap _ (by dsimp only; omega)).trans ((set_heap _ (by dsimp only; omega)).trans (set_heap _ (by dsimp only; omega)))))
      have hle : W.heap.size ≤ wo.heap.size := by omega
      refine ⟨Nat.le_refl _, hr.b.mono (by rw [hs9]; exact hle), hr.d.mono (by rw [hs9]; exact hle), how.row, hr.n1, hr.d1, by show (wthL r.V out r.m).length ≤ 1000; omega, hr.bc, hr.dc, hcl⟩
end Go.Proofs.YtnnikeolgknfoaaGreat
