/- Chutes: mix, Pull, Between, In. -/
import Derived.Test.YtnnikeolgknfoaaGreatGa
set_option linter.unusedSimpArgs false
set_option linter.unusedVariables false
namespace Go.Proofs.YtnnikeolgknfoaaGreat
open Go.RowKit Go.Shelf

/-- bytes that came in -/
def ByRow (w : World) (B cb : Nat) (A : Option Addr) (n : Nat) : Prop := ∀ k, k < n → ∃ b o z, A = some ⟨b, o, none⟩ ∧ b ≠ cb ∧ b < B ∧ w.cell? ⟨b, o + k, none⟩ = some (.int .u8 z) ∧ 0 ≤ z ∧ z ≤ 255
/-- a chute in memory -/
structure ChAt (w : World) (B cb : Nat) (lA : Option Addr) (ln lc u : Nat) (z : Int) : Prop where
  c0 : w.cell? ⟨cb, 0, none⟩ = some (.slice lA ln lc)
  c1 : w.cell? ⟨cb, 1, none⟩ = some (.int .i64 u)
  c2 : w.cell? ⟨cb, 2, none⟩ = some (.int .u64 z)
  f1 : w.frozen? ⟨cb, 1, none⟩ = false
  f2 : w.frozen? ⟨cb, 2, none⟩ = false
  hz : 0 ≤ z ∧ z ≤ 18446744073709551615
  row : ByRow w B cb lA ln
/-- a chute in memory, however far it is used -/
def Chute (w : World) (B cb : Nat) (lA : Option Addr) (ln lc : Nat) : Prop := ∃ u z, u ≤ ln ∧ ChAt w B cb lA ln lc u z
theorem ByRow.later {w w' : World} {B cb n : Nat} {A : Option Addr} (h : ByRow w B cb A n) (hb : w.grownBy w' (some cb)) : ByRow w' B cb A n := fun k hk => by
  obtain ⟨b, o, z, hA, hne, hlt, hc, hz⟩ := h k hk
  exact ⟨b, o, z, hA, hne, hlt, cell_same (hb.block b (World.block_lt_of_cell? w _ hc) (fun e => hne (by injection e))) hc, hz⟩
theorem ChAt.same {w w' : World} {B cb : Nat} {lA : Option Addr} {ln lc u : Nat} {z : Int} (h : ChAt w B cb lA ln lc u z) (hb : w.grownBy w' (some cb)) (hs : w'.heap[cb]? = w.heap[cb]?) : ChAt w' B cb lA ln lc u z :=
  ⟨cell_same hs h.c0, cell_same hs h.c1, cell_same hs h.c2, fro_same hs h.f1, fro_same hs h.f2, h.hz, h.row.later hb⟩
theorem ChAt.lt {w : World} {B cb : Nat} {lA : Option Addr} {ln lc u : Nat} {z : Int} (h : ChAt w B cb lA ln lc u z) : cb < w.heap.size := World.block_lt_of_cell? w _ h.c0
theorem Chute.keep {w w' : World} {B cb : Nat} {lA : Option Addr} {ln lc : Nat} (h : Chute w B cb lA ln lc) (hk : ∀ i, i < B ∨ i = cb → w'.heap[i]? = w.heap[i]?) : Chute w' B cb lA ln lc := by
  obtain ⟨u, z, hu, hc⟩ := h
  have hs := hk cb (.inr rfl)
  refine ⟨u, z, hu, cell_same hs hc.c0, cell_same hs hc.c1, cell_same hs hc.c2, fro_same hs hc.f1, fro_same hs hc.f2, hc.hz, fun k hk' => ?_⟩
  obtain ⟨b, o, y, hA, hne, hlt, hcc, hz⟩ := hc.row k hk'
  exact ⟨b, o, y, hA, hne, hlt, cell_same (hk b (.inl hlt)) hcc, hz⟩
theorem ChAt.later {w w' : World} {B cb : Nat} {lA : Option Addr} {ln lc u : Nat} {z : Int} (h : ChAt w B cb lA ln lc u z) (hb : Below w.heap.size w w') : ChAt w' B cb lA ln lc u z := h.same (gb_of_below _ hb) (hb.block _ h.lt)
theorem Chute.later {w w' : World} {B cb : Nat} {lA : Option Addr} {ln lc : Nat} (h : Chute w B cb lA ln lc) (hb : Below w.heap.size w w') : Chute w' B cb lA ln lc := by
  obtain ⟨u, z, hu, hc⟩ := h
  exact ⟨u, z, hu, hc.later hb⟩
theorem ChAt.set1 {w : World} {B cb : Nat} {lA : Option Addr} {ln lc u : Nat} {z : Int} (h : ChAt w B cb lA ln lc u z) (v : Nat) : ChAt (w.setCell ⟨cb, 1, none⟩ (.int .i64 v)) B cb lA ln lc v z := by
  obtain ⟨h0, h1, h2, f1, f2, hz, hr⟩ := h
  exact ⟨by simp [go_sem, h0], by simp [go_sem, h1], by simp [go_sem, h2], Fs _ f1, Fs _ f2, hz, hr.later (gb_set _ _ _ _)⟩
theorem ChAt.set2 {w : World} {B cb : Nat} {lA : Option Addr} {ln lc u : Nat} {z : Int} (h : ChAt w B cb lA ln lc u z) (v : Int) (hv : 0 ≤ v ∧ v ≤ 18446744073709551615) : ChAt (w.setCell ⟨cb, 2, none⟩ (.int .u64 v)) B cb lA ln lc u v := by
  obtain ⟨h0, h1, h2, f1, f2, hz, hr⟩ := h
  exact ⟨by simp [go_sem, h0], by simp [go_sem, h1], by simp [go_sem, h2], Fs _ f1, Fs _ f2, hv, hr.later (gb_set _ _ _ _)⟩

theorem ChAt.set22 {w : World} {B cb : Nat} {lA : Option Addr} {ln lc u : Nat} {z : Int} (h : ChAt w B cb lA ln lc u z) (x v : Int) (hv : 0 ≤ v ∧ v ≤ 18446744073709551615) : ChAt ((w.setCell ⟨cb, 2, none⟩ (.int .u64 x)).setCell ⟨cb, 2, none⟩ (.int .u64 v)) B cb lA ln lc u v := by
  obtain ⟨h0, h1, h2, f1, f2, hz, hr⟩ := h
  exact ⟨by simp [go_sem, h0], by simp [go_sem, h1], by simp [go_sem, h2], Fs _ (Fs _ f1), Fs _ (Fs _ f2), hv, (hr.later (gb_set _ _ _ _)).later (gb_set _ _ _ _)⟩
theorem u64_bd (x : Int) : 0 ≤ IntKind.u64.wrap x ∧ IntKind.u64.wrap x ≤ 18446744073709551615 := by rw [IntKind.wrap_u64]; omega

set_option maxRecDepth 100000 in
set_option maxHeartbeats 1000000 in
theorem mix_any (B cb : Nat) (lA : Option Addr) (ln lc u : Nat) (z a : Int) (ha : 0 ≤ a ∧ a ≤ 255) (W : World) (h : ChAt W B cb lA ln lc u z) :
    Calls Tryz.prog 127 #[.pointer (some ⟨cb, 0, none⟩), .int .u8 a] W fun e W' => e = .returned (.tuple #[]) ∧ W.grownBy W' (some cb) ∧ ∃ z', ChAt W' B cb lA ln lc u z' := by
  have H := Lib.hid h
  have c2 := h.c2
  have f2 := h.f2
  clear h
  go_enter Tryz.func127, Tryz.ntmps127
  go_upto_region 0 with fail
  refine region_qbt 22 (by kernel_rfl) (by kernel_rfl) ?_
  simp only [List.take_succ_cons, List.take_zero, List.drop_succ_cons, List.drop_zero]
  have x2 := cell_regrown c2
  repeat (first | go_big_quiet_step (fail) | quiet_step (fail))
  refine wpQuiet_nil ?_; intro wq hbq
  clear x2
  have HQ := Lib.hid (H.out.later hbq)
  have HG := Lib.hid (gb_of_below cb hbq)
  have c2 := HQ.out.c2
  have f2 := HQ.out.f2
  generalize bits BinOp.xor IntKind.u64 z (IntKind.u64.wrap (IntKind.u64.wrap (a + 11400714819323198485 + IntKind.u64.wrap (z * 64)) + z / 4)) = xv
  clear hbq
  go_wp2_with fail
  go_end0
  exact ⟨rfl, gb_trans HG.out (gb_trans (gb_set _ _ _ _) (gb_set _ _ _ _)), _, HQ.out.set22 xv _ (u64_bd _)⟩

theorem tmod_bd {x n : Int} (hx : 0 ≤ x) (hn : 2 ≤ n) : 0 ≤ x.tmod n ∧ x.tmod n < n := ⟨Int.tmod_nonneg _ hx, Int.tmod_lt_of_pos _ (by omega)⟩

/-- what Pull gives: a number below n -/
def PullPost (B cb : Nat) (lA : Option Addr) (ln lc : Nat) (n : Int) (W : World) (e : Ending) (W' : World) : Prop :=
  ∃ k : Int, e = .returned (.int .i64 k) ∧ 0 ≤ k ∧ (k < n ∨ k = 0) ∧ W.grownBy W' (some cb) ∧ Chute W' B cb lA ln lc

set_option maxRecDepth 100000 in
set_option maxHeartbeats 2000000 in
theorem pull_any (B cb : Nat) (lA : Option Addr) (ln lc : Nat) (n : Int) (hn : n ≤ 256) (hln : ln ≤ 9223372036854775807) (W : World) (h : Chute W B cb lA ln lc) :
    Calls Tryz.prog 61 #[.pointer (some ⟨cb, 0, none⟩), .int .i64 n] W (PullPost B cb lA ln lc n W) := by
  obtain ⟨u, z, hu, hc⟩ := h
  have HC := Lib.hid hc
  have c0 := hc.c0
  have c1 := hc.c1
  have c2 := hc.c2
  have f1 := hc.f1
  have hz := hc.hz
  clear hc
  by_cases h2 : n < 2
  · go_enter Tryz.func61, Tryz.ntmps61
    go_wp2_with fail
    go_ret
    exact ⟨0, rfl, by omega, .inr rfl, ⟨rfl, rfl, rfl, Nat.le_refl _, fun _ _ _ => rfl⟩, u, z, hu, HC.out⟩
  · by_cases h0 : ln = 0
    · have h0' : ((ln : Int) == 0) = true := by simp [h0]
      have hnb : ¬ n < 2 := h2
      clear h0
      go_enter Tryz.func61, Tryz.ntmps61
      go_wp2_with fail
      go_ret
      exact ⟨0, rfl, by omega, .inr rfl, ⟨rfl, rfl, rfl, Nat.le_refl _, fun _ _ _ => rfl⟩, u, z, hu, HC.out⟩
    · have h0' : ((ln : Int) == 0) = false := by rw [beq_eq_false_iff_ne]; omega
      have h3 : ¬ (256 : Int) < n := by omega
      go_enter Tryz.func61, Tryz.ntmps61
      go_wp2_with fail
      have hl0 : 0 < ln := by omega
      have x0 := cell_regrown c0
      have x1 := cell_regrown c1
      have hd3 : decide (256 < n) = false := by simp; omega
      by_cases hlt : u + 1 < ln
      · have ew : IntKind.i64.wrap ((u : Int) + 1) = (u : Int) + 1 := IntWalk.i64_in _ (by omega)
        have hlt' : (u : Int) + 1 < (ln : Int) := by omega
        refine region_qbw (by kernel_rfl) (by kernel_rfl) ?_
        repeat (first | go_big_quiet_step (fail) | quiet_step (fail))
        refine wpQuiet_nil ?_; intro wq hbq
        have HC1 := Lib.hid (HC.out.later hbq)
        have HG1 := Lib.hid (gb_of_below cb hbq)
        clear x0 x1 c0 c1 c2 f1 hbq
        have c0 := HC1.out.c0
        have c1 := HC1.out.c1
        have x0 := cell_regrown c0
        have x1 := cell_regrown c1
        have hul : (u : Int) < (ln : Int) := by omega
        (try rw [hd3])
        go_wp2_with fail
        refine region_qbw (by kernel_rfl) (by kernel_rfl) ?_
        repeat (first | go_big_quiet_step (fail) | quiet_step (fail))
        refine wpQuiet_nil ?_; intro wr hbr
        have HC2 := Lib.hid (HC1.out.later hbr)
        have HG2 := Lib.hid (gb_trans HG1.out (gb_of_below cb hbr))
        clear x0 x1 c0 c1 hbr HC1 HG1
        have c0 := HC2.out.c0
        have c1 := HC2.out.c1
        have x0 := cell_regrown c0
        have x1 := cell_regrown c1
        obtain ⟨b, o, a, rfl, hbc, hbl, cr, ha⟩ := HC2.out.row u (by omega)
        have x2 := cell_regrown cr
        have hu0 : (0 : Int) ≤ (u : Int) := by omega
        go_wp2_with fail
        refine region_qbw (by kernel_rfl) (by kernel_rfl) ?_
        repeat (first | go_big_quiet_step (fail) | quiet_step (fail))
        refine wpQuiet_nil ?_; intro ws hbs
        have HC3 := Lib.hid (HC2.out.later hbs)
        have HG3 := Lib.hid (gb_trans HG2.out (gb_of_below cb hbs))
        clear x0 x1 x2 c0 c1 cr hbs HC2 HG2
        have c1 := HC3.out.c1
        have f1 := HC3.out.f1
        go_wp2_with fail
        show Calls _ _ _ (ws.setCell ⟨cb, 1, none⟩ (.int .i64 ((u + 1 : Nat) : Int))) _
        refine (mix_any B cb _ ln lc (u + 1) z a ha _ (HC3.out.set1 (u + 1))).mono ?_
        rintro e w5 ⟨rfl, hg5, z', hc5⟩
        have HG5 := Lib.hid (gb_trans HG3.out (gb_trans (gb_set _ _ _ _) hg5))
        have HC5 := Lib.hid hc5
        have hbd : 0 ≤ a % n ∧ a % n < n := ⟨Int.emod_nonneg _ (by omega), Int.emod_lt_of_pos _ (by omega)⟩
        have hne0 : n ≠ 0 := by omega
        have hn0 : (n == 0) = false := by simpa using hne0
        have eu : IntKind.i64.wrap a = a := IntWalk.i64_in _ (by omega)
        clear hg5 hc5 c1 f1
        go_wp2_with fail
        go_ret
        exact ⟨_, rfl, hbd.1, .inl hbd.2, HG5.out, u + 1, z', by omega, HC5.out⟩
      · by_cases hul0 : u < ln
        · have ew : IntKind.i64.wrap ((u : Int) + 1) = (u : Int) + 1 := IntWalk.i64_in _ (by omega)
          have hlt' : ¬ (u : Int) + 1 < (ln : Int) := by omega
          refine region_qbw (by kernel_rfl) (by kernel_rfl) ?_
          repeat (first | go_big_quiet_step (fail) | quiet_step (fail))
          refine wpQuiet_nil ?_; intro wq hbq
          have HC1 := Lib.hid (HC.out.later hbq)
          have HG1 := Lib.hid (gb_of_below cb hbq)
          clear x0 x1 c0 c1 c2 f1 hbq
          have c0 := HC1.out.c0
          have c1 := HC1.out.c1
          have x0 := cell_regrown c0
          have x1 := cell_regrown c1
          have hul : (u : Int) < (ln : Int) := by omega
          (try rw [hd3])
          go_wp2_with fail
          refine region_qbw (by kernel_rfl) (by kernel_rfl) ?_
          repeat (first | go_big_quiet_step (fail) | quiet_step (fail))
          refine wpQuiet_nil ?_; intro wr hbr
          have HC2 := Lib.hid (HC1.out.later hbr)
          have HG2 := Lib.hid (gb_trans HG1.out (gb_of_below cb hbr))
          clear x0 x1 c0 c1 hbr HC1 HG1
          have c0 := HC2.out.c0
          have c1 := HC2.out.c1
          have x0 := cell_regrown c0
          have x1 := cell_regrown c1
          obtain ⟨b, o, a, rfl, hbc, hbl, cr, ha⟩ := HC2.out.row u (by omega)
          have x2 := cell_regrown cr
          have hu0 : (0 : Int) ≤ (u : Int) := by omega
          go_wp2_with fail
          refine region_qbw (by kernel_rfl) (by kernel_rfl) ?_
          repeat (first | go_big_quiet_step (fail) | quiet_step (fail))
          refine wpQuiet_nil ?_; intro ws hbs
          have HC3 := Lib.hid (HC2.out.later hbs)
          have HG3 := Lib.hid (gb_trans HG2.out (gb_of_below cb hbs))
          clear x0 x1 x2 c0 c1 cr hbs HC2 HG2
          have c1 := HC3.out.c1
          have f1 := HC3.out.f1
          go_wp2_with fail
          show Calls _ _ _ (ws.setCell ⟨cb, 1, none⟩ (.int .i64 ((u + 1 : Nat) : Int))) _
          refine (mix_any B cb _ ln lc (u + 1) z a ha _ (HC3.out.set1 (u + 1))).mono ?_
          rintro e w5 ⟨rfl, hg5, z', hc5⟩
          have HG5 := Lib.hid (gb_trans HG3.out (gb_trans (gb_set _ _ _ _) hg5))
          have HC5 := Lib.hid hc5
          have hbd : 0 ≤ a % n ∧ a % n < n := ⟨Int.emod_nonneg _ (by omega), Int.emod_lt_of_pos _ (by omega)⟩
          have hne0 : n ≠ 0 := by omega
          have hn0 : (n == 0) = false := by simpa using hne0
          have eu : IntKind.i64.wrap a = a := IntWalk.i64_in _ (by omega)
          clear hg5 hc5 c1 f1
          go_wp2_with fail
          go_ret
          exact ⟨_, rfl, hbd.1, .inl hbd.2, HG5.out, u + 1, z', by omega, HC5.out⟩
        · obtain rfl : u = ln := by omega
          by_cases hov : u < 9223372036854775807
          · have ew : IntKind.i64.wrap ((u : Int) + 1) = (u : Int) + 1 := IntWalk.i64_in _ (by omega)
            have hlt' : ¬ (u : Int) + 1 < (u : Int) := by omega
            refine region_qbw (by kernel_rfl) (by kernel_rfl) ?_
            repeat (first | go_big_quiet_step (fail) | quiet_step (fail))
            refine wpQuiet_nil ?_; intro wq hbq
            have HC1 := Lib.hid (HC.out.later hbq)
            have HG1 := Lib.hid (gb_of_below cb hbq)
            clear x0 x1 c0 c1 c2 f1 hbq
            have c0 := HC1.out.c0
            have c1 := HC1.out.c1
            have x0 := cell_regrown c0
            have x1 := cell_regrown c1
            have hul : ¬ (u : Int) < (u : Int) := by omega
            go_wp2_with fail
            refine region_qbw (by kernel_rfl) (by kernel_rfl) ?_
            repeat (first | go_big_quiet_step (fail) | quiet_step (fail))
            refine wpQuiet_nil ?_; intro wr hbr
            have HC2 := Lib.hid (HC1.out.later hbr)
            have HG2 := Lib.hid (gb_trans HG1.out (gb_of_below cb hbr))
            clear x0 x1 c0 c1 hbr HC1 HG1
            have c0 := HC2.out.c0
            have c2 := HC2.out.c2
            have x0 := cell_regrown c0
            have x1 := cell_regrown c2
            go_upto_region 14 with fail
            refine region_qbt 19 (by kernel_rfl) (by kernel_rfl) ?_
            simp only [List.take_succ_cons, List.take_zero, List.drop_succ_cons, List.drop_zero]
            have hz2 := HC2.out.hz
            obtain ⟨k, hk⟩ : ∃ k : Nat, z % (u : Int) = k := Int.eq_ofNat_of_zero_le (Int.emod_nonneg _ (by omega))
            have hku : k < u := by have := Int.emod_lt_of_pos z (show (0 : Int) < (u : Int) by omega); omega
            obtain ⟨b, o, a, rfl, hbc, hbl, cr, ha⟩ := HC2.out.row k hku
            have x2 := cell_regrown cr
            have hk0 : (0 : Int) ≤ (k : Int) := by omega
            have hk1 : (k : Int) < (u : Int) := by omega
            repeat (first | go_big_quiet_step (fail) | quiet_step (fail))
            refine wpQuiet_nil ?_; intro ws hbs
            have HC3 := Lib.hid (HC2.out.later hbs)
            have HG3 := Lib.hid (gb_trans HG2.out (gb_of_below cb hbs))
            clear x0 x1 x2 c0 c2 cr hbs HC2 HG2 hk
            go_wp2_with fail
            refine (mix_any B cb _ u lc u z a ha _ HC3.out).mono ?_
            rintro e w5 ⟨rfl, hg5, z', hc5⟩
            have HG5 := Lib.hid (gb_trans HG3.out hg5)
            have HC5 := Lib.hid hc5
            have hz5 := hc5.hz
            have c2 := hc5.c2
            clear hg5 hc5
            have hq : 0 ≤ z' / 1048576 ∧ z' / 1048576 ≤ 17592186044415 := by omega
            have hbd : 0 ≤ z' / 1048576 % n ∧ z' / 1048576 % n < n := ⟨Int.emod_nonneg _ (by omega), Int.emod_lt_of_pos _ (by omega)⟩
            go_wp2_with fail
            go_ret
            exact ⟨_, rfl, hbd.1, .inl hbd.2, HG5.out, u, z', by omega, HC5.out⟩
          · obtain ⟨v, hv⟩ : ∃ v, IntKind.i64.wrap ((u : Int) + 1) = v := ⟨_, rfl⟩
            have hlt' : v < (u : Int) := by
              have hu9 : u = 9223372036854775807 := by omega
              rw [← hv, hu9]
              decide
            have HD3 := Lib.hid hd3
            refine region_qbw (by kernel_rfl) (by kernel_rfl) ?_
            repeat (first | go_big_quiet_step (fail) | quiet_step (fail))
            refine wpQuiet_nil ?_; intro wq hbq
            have HC1 := Lib.hid (HC.out.later hbq)
            have HG1 := Lib.hid (gb_of_below cb hbq)
            clear x0 x1 c0 c1 c2 f1 hbq
            have c0 := HC1.out.c0
            have c1 := HC1.out.c1
            have x0 := cell_regrown c0
            have x1 := cell_regrown c1
            have hul : ¬ (u : Int) < (u : Int) := by omega
            (try rw [hd3])
            go_wp2_with fail
            refine region_qbw (by kernel_rfl) (by kernel_rfl) ?_
            repeat (first | go_big_quiet_step (fail) | quiet_step (fail))
            refine wpQuiet_nil ?_; intro wr hbr
            have HC2 := Lib.hid (HC1.out.later hbr)
            have HG2 := Lib.hid (gb_trans HG1.out (gb_of_below cb hbr))
            clear x0 x1 c0 c1 hbr HC1 HG1
            have c0 := HC2.out.c0
            have c2 := HC2.out.c2
            have x0 := cell_regrown c0
            have x1 := cell_regrown c2
            go_upto_region 14 with fail
            refine region_qbt 19 (by kernel_rfl) (by kernel_rfl) ?_
            simp only [List.take_succ_cons, List.take_zero, List.drop_succ_cons, List.drop_zero]
            have hz2 := HC2.out.hz
            obtain ⟨k, hk⟩ : ∃ k : Nat, z % (u : Int) = k := Int.eq_ofNat_of_zero_le (Int.emod_nonneg _ (by omega))
            have hku : k < u := by have := Int.emod_lt_of_pos z (show (0 : Int) < (u : Int) by omega); omega
            obtain ⟨b, o, a, rfl, hbc, hbl, cr, ha⟩ := HC2.out.row k hku
            have x2 := cell_regrown cr
            have hk0 : (0 : Int) ≤ (k : Int) := by omega
            have hk1 : (k : Int) < (u : Int) := by omega
            repeat (first | go_big_quiet_step (fail) | quiet_step (fail))
            refine wpQuiet_nil ?_; intro ws hbs
            have HC3 := Lib.hid (HC2.out.later hbs)
            have HG3 := Lib.hid (gb_trans HG2.out (gb_of_below cb hbs))
            clear x0 x1 x2 c0 c2 cr hbs HC2 HG2 hk
            go_wp2_with fail
            refine (mix_any B cb _ u lc u z a ha _ HC3.out).mono ?_
            rintro e w5 ⟨rfl, hg5, z', hc5⟩
            have HG5 := Lib.hid (gb_trans HG3.out hg5)
            have HC5 := Lib.hid hc5
            have hz5 := hc5.hz
            have c2 := hc5.c2
            clear hg5 hc5
            have hq : 0 ≤ z' / 1048576 ∧ z' / 1048576 ≤ 17592186044415 := by omega
            have hbd : 0 ≤ z' / 1048576 % n ∧ z' / 1048576 % n < n := ⟨Int.emod_nonneg _ (by omega), Int.emod_lt_of_pos _ (by omega)⟩
            go_wp2_with fail
            go_ret
            exact ⟨_, rfl, hbd.1, .inl hbd.2, HG5.out, u, z', by omega, HC5.out⟩

/-- what Between gives -/
def BetPost (B cb : Nat) (lA : Option Addr) (ln lc : Nat) (lo hi : Int) (W : World) (e : Ending) (W' : World) : Prop :=
  ∃ k : Int, e = .returned (.int .i64 k) ∧ lo ≤ k ∧ (k ≤ hi ∨ k = lo) ∧ W.grownBy W' (some cb) ∧ Chute W' B cb lA ln lc

set_option maxRecDepth 100000 in
set_option maxHeartbeats 1000000 in
theorem between_any (B cb : Nat) (lA : Option Addr) (ln lc : Nat) (lo hi : Int) (h1 : -1000 ≤ lo ∧ lo ≤ 1000) (h2 : -1000 ≤ hi ∧ hi ≤ 1000) (h3 : hi - lo ≤ 255) (hln : ln ≤ 9223372036854775807) (W : World) (h : Chute W B cb lA ln lc) :
    Calls Tryz.prog 62 #[.pointer (some ⟨cb, 0, none⟩), .int .i64 lo, .int .i64 hi] W (BetPost B cb lA ln lc lo hi W) := by
  have H := Lib.hid h
  clear h
  have e1 : IntKind.i64.wrap (hi - lo) = hi - lo := IntWalk.i64_in _ (by omega)
  have e2 : IntKind.i64.wrap (hi - lo + 1) = hi - lo + 1 := IntWalk.i64_in _ (by omega)
  go_enter Tryz.func62, Tryz.ntmps62
  go_wp2_with fail
  refine (pull_any B cb lA ln lc (hi - lo + 1) (by omega) hln _ H.out).mono ?_
  rintro e w1 ⟨k, rfl, hk0, hk1, hg, hc⟩
  have HG := Lib.hid hg
  have HC := Lib.hid hc
  have e3 : IntKind.i64.wrap (lo + k) = lo + k := IntWalk.i64_in _ (by omega)
  clear hg hc
  go_wp2_with fail
  go_ret
  exact ⟨_, rfl, by omega, by omega, HG.out, HC.out⟩

/-- bytes that came in, ahead of a chute -/
def ByIn (w : World) (B : Nat) (A : Option Addr) (n : Nat) : Prop := ∀ k, k < n → ∃ b o z, A = some ⟨b, o, none⟩ ∧ b < B ∧ w.cell? ⟨b, o + k, none⟩ = some (.int .u8 z) ∧ 0 ≤ z ∧ z ≤ 255
theorem ByIn.later {w w' : World} {B n : Nat} {A : Option Addr} (h : ByIn w B A n) (hb : Below B w w') : ByIn w' B A n := fun k hk => by
  obtain ⟨b, o, z, hA, hlt, hc, hz⟩ := h k hk
  exact ⟨b, o, z, hA, hlt, cell_same (hb.block b hlt) hc, hz⟩

set_option maxRecDepth 100000 in
set_option maxHeartbeats 1000000 in
theorem fill_any (B : Nat) (lA : Option Addr) (ln lc : Nat) (W : World) (hB : B ≤ W.heap.size) (h : ByIn W B lA ln) :
    Calls Tryz.prog 54 #[.slice lA ln lc] W fun e W' => ∃ cb, e = .returned (.pointer (some ⟨cb, 0, none⟩)) ∧ W.heap.size ≤ cb ∧ Below W.heap.size W W' ∧ Chute W' B cb lA ln lc := by
  have H := Lib.hid h
  clear h
  go_enter Tryz.func54, Tryz.ntmps54
  go_wp2_with fail
  go_ret
  refine ⟨W.heap.size, rfl, Nat.le_refl _, (by repeat (first | (with_reducible first | exact Below.refl _ _ | refine Below.drew ?_ | refine below_drewN ?_ _) | ((with_reducible first | refine Lc ?_ ?_ _ | refine Ls ?_ ?_ _ | refine Lv (by assumption) ?_ ?_); · first | exact Nat.le_refl _ | omega | (simp; done) | (simp; omega) | (simp at *; omega)))), 0, 8191, Nat.zero_le _, (by (repeat' refine And.intro ?_ ?_) <;> (repeat (first | with_reducible assumption | (simp; done) | (with_reducible first | refine Kd ?_ | refine Kn ?_ | refine Kb (by assumption) ?_) | ((with_reducible first | refine Kw ?_ ?_ | refine Fw ?_) <;> first | with_reducible rfl | (simp; done)) | (with_reducible first | refine Ka _ ?_ | refine Ks _ (by first | exact Nat.le_refl _ | omega | (simp; done) | (simp; omega)) ?_ | refine Fd ?_ | refine Fn ?_ | refine Fb (by assumption) (by first | exact Nat.le_refl _ | omega | (simp; done) | (simp; omega)) ?_ | refine Fa _ (by first | exact Nat.le_refl _ | omega | (simp; done) | (simp; omega)) ?_ | refine Fs _ ?_)))), (by (repeat' refine And.intro ?_ ?_) <;> (repeat (first | with_reducible assumption | (simp; done) | (with_reducible first | refine Kd ?_ | refine Kn ?_ | refine Kb (by assumption) ?_) | ((with_reducible first | refine Kw ?_ ?_ | refine Fw ?_) <;> first | with_reducible rfl | (simp; done)) | (with_reducible first | refine Ka _ ?_ | refine Ks _ (by first | exact Nat.le_refl _ | omega | (simp; done) | (simp; omega)) ?_ | refine Fd ?_ | refine Fn ?_ | refine Fb (by assumption) (by first | exact Nat.le_refl _ | omega | (simp; done) | (simp; omega)) ?_ | refine Fa _ (by first | exact Nat.le_refl _ | omega | (simp; done) | (simp; omega)) ?_ | refine Fs _ ?_)))), (by (repeat' refine And.intro ?_ ?_) <;> (repeat (first | with_reducible assumption | (simp; done) | (with_reducible first | refine Kd ?_ | refine Kn ?_ | refine Kb (by assumption) ?_) | ((with_reducible first | refine Kw ?_ ?_ | refine Fw ?_) <;> first | with_reducible rfl | (simp; done)) | (with_reducible first | refine Ka _ ?_ | refine Ks _ (by first | exact Nat.le_refl _ | omega | (simp; done) | (simp; omega)) ?_ | refine Fd ?_ | refine Fn ?_ | refine Fb (by assumption) (by first | exact Nat.le_refl _ | omega | (simp; done) | (simp; omega)) ?_ | refine Fa _ (by first | exact Nat.le_refl _ | omega | (simp; done) | (simp; omega)) ?_ | refine Fs _ ?_)))), (by (repeat' refine And.intro ?_ ?_) <;> (repeat (first | with_reducible assumption | (simp; done) | (with_reducible first | refine Kd ?_ | refine Kn ?_ | refine Kb (by assumption) ?_) | ((with_reducible first | refine Kw ?_ ?_ | refine Fw ?_) <;> first | with_reducible rfl | (simp; done)) | (with_reducible first | refine Ka _ ?_ | refine Ks _ (by first | exact Nat.le_refl _ | omega | (simp; done) | (simp; omega)) ?_ | refine Fd ?_ | refine Fn ?_ | refine Fb (by assumption) (by first | exact Nat.le_refl _ | omega | (simp; done) | (simp; omega)) ?_ | refine Fa _ (by first | exact Nat.le_refl _ | omega | (simp; done) | (simp; omega)) ?_ | refine Fs _ ?_)))), (by (repeat' refine And.intro ?_ ?_) <;> (repeat (first | with_reducible assumption | (simp; done) | (with_reducible first | refine Kd ?_ | refine Kn ?_ | refine Kb (by assumption) ?_) | ((with_reducible first | refine Kw ?_ ?_ | refine Fw ?_) <;> first | with_reducible rfl | (simp; done)) | (with_reducible first | refine Ka _ ?_ | refine Ks _ (by first | exact Nat.le_refl _ | omega | (simp; done) | (simp; omega)) ?_ | refine Fd ?_ | refine Fn ?_ | refine Fb (by assumption) (by first | exact Nat.le_refl _ | omega | (simp; done) | (simp; omega)) ?_ | refine Fa _ (by first | exact Nat.le_refl _ | omega | (simp; done) | (simp; omega)) ?_ | refine Fs _ ?_)))), by omega, fun k hk => ?_⟩
  obtain ⟨b, o, z, hA, hlt, hc, hz⟩ := H.out k hk
  exact ⟨b, o, z, hA, by omega, hlt, Ka _ hc, hz⟩
end Go.Proofs.YtnnikeolgknfoaaGreat
