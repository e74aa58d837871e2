/- The laws of the reference: same. (Written by gen_wa.py.) -/
import Derived.Test.YtnnikeolgknfoaaGreatCp
import Derived.Test.YtnnikeolgknfoaaGreatE3
import Derived.Test.YtnnikeolgknfoaaGreatCq
import Derived.Test.YtnnikeolgknfoaaGreatEco
import Derived.ChangeKeysEq
set_option linter.unusedSimpArgs false
set_option linter.unusedVariables false
namespace Go.Proofs.YtnnikeolgknfoaaGreat
open Go.RowKit Go.Shelf

set_option maxRecDepth 100000 in
set_option maxHeartbeats 1000000 in
theorem copyO_bn (A : Option Addr) (n c : Nat) (P : Nat → Bn) (W : World) (hr : BnRow W W.heap.size A n P) (hn : n ≤ 1000) :
    Calls Tryz.prog 68 #[.slice A n c] W fun e W' => Below W.heap.size W W' ∧ ∃ A c', e = .returned (.slice A n c') ∧ OwnBn W' W.heap.size A n P ∧ n ≤ c' ∧ W'.ownsRow W.heap.size 119 7 (.slice A n c') n (rowC bnC P n) := by
  have HR := Lib.hid hr
  obtain ⟨i0, hi, hz0, hz1, hz2⟩ := info_parts infoBn
  by_cases h0 : n = 0
  · subst h0
    clear hr
    go_enter Tryz.func68, Tryz.ntmps68
    go_wp2_with fail
    go_ret
    exact ⟨Below.refl _ _, none, 0, rfl, fun k hk => by omega, Nat.le_refl _, World.ownsRow_nil _ _ _ _⟩
  · obtain ⟨a, rfl⟩ : ∃ a, A = some a := by cases A with | none => exact absurd (hr.none rfl) h0 | some a => exact ⟨a, rfl⟩
    have hb : ((n : Int) == 0) = false := by rw [beq_eq_false_iff_ne]; omega
    clear hr h0
    go_enter Tryz.func68, Tryz.ntmps68
    go_wp2_with (at_builtin; refine wpList_append_own _ rfl _ _ 22 rfl W.heap.size 119 i0 (.agg #[.int .i64 0, .int .i64 0, .int .i64 0, .int .i64 0, .int .i64 0, .int .i64 0, .int .i64 0]) 7 56 bns_under hi hz0 hz1 hz2 rfl (by decide) (.slice (some ⟨W.heap.size, 0, none⟩) 0 0) 0 [] rfl (World.ownsRow_made W #[] 0 (Nat.le_refl _) (Nat.zero_le _) rfl) a n c (rowC bnC P n) rfl (rowC_len bnC_len _ _) ?c1 (rowC_one bnC_one _ _) ?c3 ?c4 ?c5 ?_)
    case c1 =>
      intro j u hj
      exact Lib.cell?_alloc_some _ (HR.out.atA hj)
    case c3 => unfold maxLen; omega
    case c4 => omega
    case c5 => simp
    intro v' w1 hown hgrow hnil
    go_wp2
    go_ret
    have hB : Below W.heap.size W w1 := ((Below.refl _ W).alloc (Nat.le_refl _) _).grown hgrow (by simp) (by intro k hk; simp [Value.ownBlock] at hk; omega)
    obtain ⟨A, c', rfl, h1, h2⟩ := OwnBn.of (P := P) (by simpa using hown)
    exact ⟨hB, A, c', rfl, h1, h2, by simpa using hown⟩

set_option maxRecDepth 100000 in
set_option maxHeartbeats 1000000 in
theorem copyO_wg (A : Option Addr) (n c : Nat) (P : Nat → Wg) (W : World) (hr : WgRow W W.heap.size A n P) (hn : n ≤ 1000) :
    Calls Tryz.prog 70 #[.slice A n c] W fun e W' => Below W.heap.size W W' ∧ ∃ A c', e = .returned (.slice A n c') ∧ OwnWg W' W.heap.size A n P ∧ n ≤ c' ∧ W'.ownsRow W.heap.size 101 4 (.slice A n c') n (rowC wgC P n) := by
  have HR := Lib.hid hr
  obtain ⟨i0, hi, hz0, hz1, hz2⟩ := info_parts infoWg
  by_cases h0 : n = 0
  · subst h0
    clear hr
    go_enter Tryz.func70, Tryz.ntmps70
    go_wp2_with fail
    go_ret
    exact ⟨Below.refl _ _, none, 0, rfl, fun k hk => by omega, Nat.le_refl _, World.ownsRow_nil _ _ _ _⟩
  · obtain ⟨a, rfl⟩ : ∃ a, A = some a := by cases A with | none => exact absurd (hr.none rfl) h0 | some a => exact ⟨a, rfl⟩
    have hb : ((n : Int) == 0) = false := by rw [beq_eq_false_iff_ne]; omega
    clear hr h0
    go_enter Tryz.func70, Tryz.ntmps70
    go_wp2_with (at_builtin; refine wpList_append_own _ rfl _ _ 24 rfl W.heap.size 101 i0 (.agg #[.int .i64 0, .int .i64 0, .int .i64 0, .int .i64 0]) 4 32 wgs_under hi hz0 hz1 hz2 rfl (by decide) (.slice (some ⟨W.heap.size, 0, none⟩) 0 0) 0 [] rfl (World.ownsRow_made W #[] 0 (Nat.le_refl _) (Nat.zero_le _) rfl) a n c (rowC wgC P n) rfl (rowC_len wgC_len _ _) ?c1 (rowC_one wgC_one _ _) ?c3 ?c4 ?c5 ?_)
    case c1 =>
      intro j u hj
      exact Lib.cell?_alloc_some _ (HR.out.atA hj)
    case c3 => unfold maxLen; omega
    case c4 => omega
    case c5 => simp
    intro v' w1 hown hgrow hnil
    go_wp2
    go_ret
    have hB : Below W.heap.size W w1 := ((Below.refl _ W).alloc (Nat.le_refl _) _).grown hgrow (by simp) (by intro k hk; simp [Value.ownBlock] at hk; omega)
    obtain ⟨A, c', rfl, h1, h2⟩ := OwnWg.of (P := P) (by simpa using hown)
    exact ⟨hB, A, c', rfl, h1, h2, by simpa using hown⟩

set_option maxRecDepth 100000 in
set_option maxHeartbeats 1000000 in
theorem copyO_kd (A : Option Addr) (n c : Nat) (P : Nat → Int) (W : World) (hr : IntRow W W.heap.size A n P) (hn : n ≤ 1000) :
    Calls Tryz.prog 69 #[.slice A n c] W fun e W' => Below W.heap.size W W' ∧ ∃ A c', e = .returned (.slice A n c') ∧ OwnInt W' W.heap.size A n P ∧ n ≤ c' ∧ W'.ownsRow W.heap.size 52 1 (.slice A n c') n (numCells P n) := by
  have HR := Lib.hid hr
  obtain ⟨i0, hi, hz0, hz1, hz2⟩ := info_parts infoKd
  by_cases h0 : n = 0
  · subst h0
    clear hr
    go_enter Tryz.func69, Tryz.ntmps69
    go_wp2_with fail
    go_ret
    exact ⟨Below.refl _ _, none, 0, rfl, fun k hk => by omega, Nat.le_refl _, World.ownsRow_nil _ _ _ _⟩
  · obtain ⟨a, rfl⟩ : ∃ a, A = some a := by cases A with | none => exact absurd (hr.none rfl) h0 | some a => exact ⟨a, rfl⟩
    have hb : ((n : Int) == 0) = false := by rw [beq_eq_false_iff_ne]; omega
    clear hr h0
    go_enter Tryz.func69, Tryz.ntmps69
    go_wp2_with (at_builtin; refine wpList_append_own _ rfl _ _ 23 rfl W.heap.size 52 i0 (.int .i64 0) 1 8 kds_under hi hz0 hz1 hz2 rfl (by decide) (.slice (some ⟨W.heap.size, 0, none⟩) 0 0) 0 [] rfl (World.ownsRow_made W #[] 0 (Nat.le_refl _) (Nat.zero_le _) rfl) a n c (numCells P n) rfl (by rw [numCells_len, Nat.mul_one]) ?c1 (numCells_one _ _) ?c3 ?c4 ?c5 ?_)
    case c1 =>
      intro j u hj
      exact Lib.cell?_alloc_some _ (HR.out.atN hj)
    case c3 => unfold maxLen; omega
    case c4 => omega
    case c5 => simp
    intro v' w1 hown hgrow hnil
    go_wp2
    go_ret
    have hB : Below W.heap.size W w1 := ((Below.refl _ W).alloc (Nat.le_refl _) _).grown hgrow (by simp) (by intro k hk; simp [Value.ownBlock] at hk; omega)
    obtain ⟨A, c', rfl, h1, h2⟩ := ownInt_T (X := P) (by simpa using hown)
    exact ⟨hB, A, c', rfl, h1, h2, by simpa using hown⟩
end Go.Proofs.YtnnikeolgknfoaaGreat

set_option linter.unusedSimpArgs false
set_option linter.unusedVariables false
namespace Go.Proofs.YtnnikeolgknfoaaGreat
open Go.RowKit Go.Shelf

/-- what Own gives -/
def OwnPost (r : Rw) (W : World) (e : Ending) (W' : World) : Prop :=
  ∃ (bA dA vA : Option Addr) (bc dc vc : Nat), e = .returned (rwV bA r.n bc dA r.d dc vA r.m vc) ∧ OwnBn W' W.heap.size bA r.n r.B ∧ OwnInt W' W.heap.size dA r.d r.D ∧ W'.ownsRow W.heap.size 101 4 (.slice vA r.m vc) r.m (rowC wgC r.V r.m) ∧ (r.n ≤ bc ∧ r.d ≤ dc ∧ r.m ≤ vc) ∧ Below W.heap.size W W'

theorem hb1f {W w1 wa wd wg : World} (h1 : Below W.heap.size W w1) (hg : Below wd.heap.size wd wg) (hd : Below wa.heap.size wa wd) (ha : Below w1.drew.heap.size w1.drew wa) (hs : W.heap.size ≤ w1.heap.size) : Below W.heap.size W wg := by
  have a1 : Below W.heap.size W w1.drew := h1.drew
  have hs' : W.heap.size ≤ w1.drew.heap.size := by rw [World.size_drew]; exact hs
  have a2 := a1.trans (ha.mono hs')
  have a3 := a2.trans (hd.mono a2.size)
  exact a3.trans (hg.mono a3.size)
set_option maxRecDepth 100000 in
set_option maxHeartbeats 4000000 in
theorem own_any (r : Rw) (bA dA vA : Option Addr) (bc dc vc : Nat) (W : World) (hrow : RwRow W W.heap.size r bA bc dA dc vA vc) :
    Calls Tryz.prog 13 #[rwV bA r.n bc dA r.d dc vA r.m vc] W (OwnPost r W) := by
  have H0 := Lib.hid hrow
  have hn := hrow.n1
  have hd := hrow.d1
  have hm := hrow.m1
  clear hrow
  go_enter Tryz.func13, Tryz.ntmps13
  go_upto_region 1 with fail
  refine wp_world (fun W1 => (W1.cell? ⟨W.heap.size, 0, none⟩ = some (.slice bA r.n bc) ∧ W1.cell? ⟨W.heap.size, 1, none⟩ = some (.slice dA r.d dc) ∧ W1.cell? ⟨W.heap.size, 2, none⟩ = some (.slice vA r.m vc)) ∧ V3 W1 (W.heap.size + 1) (.slice none 0 0) (.slice none 0 0) (.slice none 0 0) ∧ Below W.heap.size W W1 ∧ W.heap.size + 2 ≤ W1.heap.size) ⟨(by (repeat' refine And.intro ?_ ?_) <;> (repeat (first | with_reducible assumption | (simp; done) | (with_reducible first | refine Kd ?_ | refine Kn ?_ | refine Kb (by assumption) ?_) | ((with_reducible first | refine Kw ?_ ?_ | refine Fw ?_) <;> first | with_reducible rfl | (simp; done)) | (with_reducible first | refine Ka _ ?_ | refine Ks _ (by first | exact Nat.le_refl _ | omega | (simp; done) | (simp; omega)) ?_ | refine Fd ?_ | refine Fn ?_ | refine Fb (by assumption) (by first | exact Nat.le_refl _ | omega | (simp; done) | (simp; omega)) ?_ | refine Fa _ (by first | exact Nat.le_refl _ | omega | (simp; done) | (simp; omega)) ?_ | refine Fs _ ?_)))), ⟨(by (repeat' refine And.intro ?_ ?_) <;> (repeat (first | with_reducible assumption | (simp; done) | (with_reducible first | refine Kd ?_ | refine Kn ?_ | refine Kb (by assumption) ?_) | ((with_reducible first | refine Kw ?_ ?_ | refine Fw ?_) <;> first | with_reducible rfl | (simp; done)) | (with_reducible first | refine Ka _ ?_ | refine Ks _ (by first | exact Nat.le_refl _ | omega | (simp; done) | (simp; omega)) ?_ | refine Fd ?_ | refine Fn ?_ | refine Fb (by assumption) (by first | exact Nat.le_refl _ | omega | (simp; done) | (simp; omega)) ?_ | refine Fa _ (by first | exact Nat.le_refl _ | omega | (simp; done) | (simp; omega)) ?_ | refine Fs _ ?_)))), (by (repeat' refine And.intro ?_ ?_) <;> (repeat (first | with_reducible assumption | (simp; done) | (with_reducible first | refine Kd ?_ | refine Kn ?_ | refine Kb (by assumption) ?_) | ((with_reducible first | refine Kw ?_ ?_ | refine Fw ?_) <;> first | with_reducible rfl | (simp; done)) | (with_reducible first | refine Ka _ ?_ | refine Ks _ (by first | exact Nat.le_refl _ | omega | (simp; done) | (simp; omega)) ?_ | refine Fd ?_ | refine Fn ?_ | refine Fb (by assumption) (by first | exact Nat.le_refl _ | omega | (simp; done) | (simp; omega)) ?_ | refine Fa _ (by first | exact Nat.le_refl _ | omega | (simp; done) | (simp; omega)) ?_ | refine Fs _ ?_)))), (by (repeat' refine And.intro ?_ ?_) <;> (repeat (first | with_reducible assumption | (simp; done) | (with_reducible first | refine Kd ?_ | refine Kn ?_ | refine Kb (by assumption) ?_) | ((with_reducible first | refine Kw ?_ ?_ | refine Fw ?_) <;> first | with_reducible rfl | (simp; done)) | (with_reducible first | refine Ka _ ?_ | refine Ks _ (by first | exact Nat.le_refl _ | omega | (simp; done) | (simp; omega)) ?_ | refine Fd ?_ | refine Fn ?_ | refine Fb (by assumption) (by first | exact Nat.le_refl _ | omega | (simp; done) | (simp; omega)) ?_ | refine Fa _ (by first | exact Nat.le_refl _ | omega | (simp; done) | (simp; omega)) ?_ | refine Fs _ ?_)))), (by (repeat' refine And.intro ?_ ?_) <;> (repeat (first | with_reducible assumption | (simp; done) | (with_reducible first | refine Kd ?_ | refine Kn ?_ | refine Kb (by assumption) ?_) | ((with_reducible first | refine Kw ?_ ?_ | refine Fw ?_) <;> first | with_reducible rfl | (simp; done)) | (with_reducible first | refine Ka _ ?_ | refine Ks _ (by first | exact Nat.le_refl _ | omega | (simp; done) | (simp; omega)) ?_ | refine Fd ?_ | refine Fn ?_ | refine Fb (by assumption) (by first | exact Nat.le_refl _ | omega | (simp; done) | (simp; omega)) ?_ | refine Fa _ (by first | exact Nat.le_refl _ | omega | (simp; done) | (simp; omega)) ?_ | refine Fs _ ?_)))), (by (repeat' refine And.intro ?_ ?_) <;> (repeat (first | with_reducible assumption | (simp; done) | (with_reducible first | refine Kd ?_ | refine Kn ?_ | refine Kb (by assumption) ?_) | ((with_reducible first | refine Kw ?_ ?_ | refine Fw ?_) <;> first | with_reducible rfl | (simp; done)) | (with_reducible first | refine Ka _ ?_ | refine Ks _ (by first | exact Nat.le_refl _ | omega | (simp; done) | (simp; omega)) ?_ | refine Fd ?_ | refine Fn ?_ | refine Fb (by assumption) (by first | exact Nat.le_refl _ | omega | (simp; done) | (simp; omega)) ?_ | refine Fa _ (by first | exact Nat.le_refl _ | omega | (simp; done) | (simp; omega)) ?_ | refine Fs _ ?_)))), (by (repeat' refine And.intro ?_ ?_) <;> (repeat (first | with_reducible assumption | (simp; done) | (with_reducible first | refine Kd ?_ | refine Kn ?_ | refine Kb (by assumption) ?_) | ((with_reducible first | refine Kw ?_ ?_ | refine Fw ?_) <;> first | with_reducible rfl | (simp; done)) | (with_reducible first | refine Ka _ ?_ | refine Ks _ (by first | exact Nat.le_refl _ | omega | (simp; done) | (simp; omega)) ?_ | refine Fd ?_ | refine Fn ?_ | refine Fb (by assumption) (by first | exact Nat.le_refl _ | omega | (simp; done) | (simp; omega)) ?_ | refine Fa _ (by first | exact Nat.le_refl _ | omega | (simp; done) | (simp; omega)) ?_ | refine Fs _ ?_))))⟩, (by repeat (first | (with_reducible first | exact Below.refl _ _ | assumption | refine Below.drew ?_) | ((with_reducible first | refine Lc ?_ ?_ _ | refine Ls ?_ ?_ _ | refine Lv (by assumption) ?_ ?_); · first | exact Nat.le_refl _ | omega | (dsimp only; omega) | (simp only [World.size_alloc, World.size_drew, World.heap_drewN]; omega) | (simp; omega)))), by simp⟩ ?_
  rintro w1 ⟨⟨c0, c1, c2⟩, hv, hb1, hs1⟩
  have HV := Lib.hid hv
  have HB1 := Lib.hid hb1
  have HR := Lib.hid (H0.out.later hb1)
  have hsW : W.heap.size ≤ w1.heap.size := by omega
  obtain ⟨r0, r1, r2, f0, f1, f2⟩ := hv
  clear hb1
  go_region_held3 (fun w' => w'.cell? ⟨W.heap.size, 0, none⟩ = some (.slice bA r.n bc) ∧ w'.cell? ⟨W.heap.size, 1, none⟩ = some (.slice dA r.d dc) ∧ w'.cell? ⟨W.heap.size, 2, none⟩ = some (.slice vA r.m vc)) ((go_split_ands; (repeat' refine And.intro ?_ ?_) <;> (repeat (first | with_reducible assumption | (simp; done) | (with_reducible first | refine Kd ?_ | refine Kn ?_ | refine Kb (by assumption) ?_) | ((with_reducible first | refine Kw ?_ ?_ | refine Fw ?_) <;> first | with_reducible rfl | (simp; done)) | (with_reducible first | refine Ka _ ?_ | refine Ks _ (by first | exact Nat.le_refl _ | omega | (simp; done) | (simp; omega)) ?_ | refine Fd ?_ | refine Fn ?_ | refine Fb (by assumption) (by first | exact Nat.le_refl _ | omega | (simp; done) | (simp; omega)) ?_ | refine Fa _ (by first | exact Nat.le_refl _ | omega | (simp; done) | (simp; omega)) ?_ | refine Fs _ ?_))))) (first | (go_at_call 68; refine (copyO_bn bA r.n bc r.B _ ((HR.out.b.below (show Below W.heap.size w1 _ from (show Below w1.heap.size w1 _ from (by repeat (first | (with_reducible first | exact Below.refl _ _ | refine Below.drew ?_ | refine below_drewN ?_ _) | ((with_reducible first | refine Lc ?_ ?_ _ | refine Ls ?_ ?_ _ | refine Lv (by assumption) ?_ ?_); · first | exact Nat.le_refl _ | omega | (simp; done) | (simp; omega) | (simp at *; omega))))).mono hsW)).mono (by first | exact Nat.le_refl _ | omega | (simp; done) | (simp; omega))) hn).mono ?_; rintro e wa ⟨hba, bA', bc', rfl, hob, hbc', hobr⟩; obtain ⟨hca, hfa⟩ := bcell hba; have hza := hba.size; (try simp only [World.size_drew, World.heap_drewN, World.size_alloc] at hza); have r0 : wa.cell? ⟨W.heap.size + 1, 0, none⟩ = some (.slice none 0 0) := (by repeat (first | with_reducible assumption | (simp; done) | (with_reducible first | refine Kd ?_ | refine Kn ?_ | refine Kb (by assumption) ?_) | ((with_reducible first | refine Kw ?_ ?_ | refine Fw ?_) <;> first | with_reducible rfl | (simp; done)) | (with_reducible first | refine Ka _ ?_ | refine Ks _ (by first | exact Nat.le_refl _ | omega | (simp; done) | (simp; omega) | (simp at *; omega)) ?_ | refine Fd ?_ | refine Fn ?_ | refine Fb (by assumption) (by first | exact Nat.le_refl _ | omega | (simp; done) | (simp; omega) | (simp at *; omega)) ?_ | refine Fa _ (by first | exact Nat.le_refl _ | omega | (simp; done) | (simp; omega) | (simp at *; omega)) ?_ | refine Fs _ ?_))); have r1 : wa.cell? ⟨W.heap.size + 1, 1, none⟩ = some (.slice none 0 0) := (by repeat (first | with_reducible assumption | (simp; done) | (with_reducible first | refine Kd ?_ | refine Kn ?_ | refine Kb (by assumption) ?_) | ((with_reducible first | refine Kw ?_ ?_ | refine Fw ?_) <;> first | with_reducible rfl | (simp; done)) | (with_reducible first | refine Ka _ ?_ | refine Ks _ (by first | exact Nat.le_refl _ | omega | (simp; done) | (simp; omega) | (simp at *; omega)) ?_ | refine Fd ?_ | refine Fn ?_ | refine Fb (by assumption) (by first | exact Nat.le_refl _ | omega | (simp; done) | (simp; omega) | (simp at *; omega)) ?_ | refine Fa _ (by first | exact Nat.le_refl _ | omega | (simp; done) | (simp; omega) | (simp at *; omega)) ?_ | refine Fs _ ?_))); have r2 : wa.cell? ⟨W.heap.size + 1, 2, none⟩ = some (.slice none 0 0) := (by repeat (first | with_reducible assumption | (simp; done) | (with_reducible first | refine Kd ?_ | refine Kn ?_ | refine Kb (by assumption) ?_) | ((with_reducible first | refine Kw ?_ ?_ | refine Fw ?_) <;> first | with_reducible rfl | (simp; done)) | (with_reducible first | refine Ka _ ?_ | refine Ks _ (by first | exact Nat.le_refl _ | omega | (simp; done) | (simp; omega) | (simp at *; omega)) ?_ | refine Fd ?_ | refine Fn ?_ | refine Fb (by assumption) (by first | exact Nat.le_refl _ | omega | (simp; done) | (simp; omega) | (simp at *; omega)) ?_ | refine Fa _ (by first | exact Nat.le_refl _ | omega | (simp; done) | (simp; omega) | (simp at *; omega)) ?_ | refine Fs _ ?_))); have f0 : wa.frozen? ⟨W.heap.size + 1, 0, none⟩ = false := (by repeat (first | with_reducible assumption | (simp; done) | (with_reducible first | refine Kd ?_ | refine Kn ?_ | refine Kb (by assumption) ?_) | ((with_reducible first | refine Kw ?_ ?_ | refine Fw ?_) <;> first | with_reducible rfl | (simp; done)) | (with_reducible first | refine Ka _ ?_ | refine Ks _ (by first | exact Nat.le_refl _ | omega | (simp; done) | (simp; omega) | (simp at *; omega)) ?_ | refine Fd ?_ | refine Fn ?_ | refine Fb (by assumption) (by first | exact Nat.le_refl _ | omega | (simp; done) | (simp; omega) | (simp at *; omega)) ?_ | refine Fa _ (by first | exact Nat.le_refl _ | omega | (simp; done) | (simp; omega) | (simp at *; omega)) ?_ | refine Fs _ ?_))); have f1 : wa.frozen? ⟨W.heap.size + 1, 1, none⟩ = false := (by repeat (first | with_reducible assumption | (simp; done) | (with_reducible first | refine Kd ?_ | refine Kn ?_ | refine Kb (by assumption) ?_) | ((with_reducible first | refine Kw ?_ ?_ | refine Fw ?_) <;> first | with_reducible rfl | (simp; done)) | (with_reducible first | refine Ka _ ?_ | refine Ks _ (by first | exact Nat.le_refl _ | omega | (simp; done) | (simp; omega) | (simp at *; omega)) ?_ | refine Fd ?_ | refine Fn ?_ | refine Fb (by assumption) (by first | exact Nat.le_refl _ | omega | (simp; done) | (simp; omega) | (simp at *; omega)) ?_ | refine Fa _ (by first | exact Nat.le_refl _ | omega | (simp; done) | (simp; omega) | (simp at *; omega)) ?_ | refine Fs _ ?_))); have f2 : wa.frozen? ⟨W.heap.size + 1, 2, none⟩ = false := (by repeat (first | with_reducible assumption | (simp; done) | (with_reducible first | refine Kd ?_ | refine Kn ?_ | refine Kb (by assumption) ?_) | ((with_reducible first | refine Kw ?_ ?_ | refine Fw ?_) <;> first | with_reducible rfl | (simp; done)) | (with_reducible first | refine Ka _ ?_ | refine Ks _ (by first | exact Nat.le_refl _ | omega | (simp; done) | (simp; omega) | (simp at *; omega)) ?_ | refine Fd ?_ | refine Fn ?_ | refine Fb (by assumption) (by first | exact Nat.le_refl _ | omega | (simp; done) | (simp; omega) | (simp at *; omega)) ?_ | refine Fa _ (by first | exact Nat.le_refl _ | omega | (simp; done) | (simp; omega) | (simp at *; omega)) ?_ | refine Fs _ ?_))); clear hca hfa) | (go_at_call 69; refine (copyO_kd dA r.d dc r.D _ ((HR.out.d.below (show Below W.heap.size w1 _ from (show Below w1.heap.size w1 _ from (by repeat (first | (with_reducible first | exact Below.refl _ _ | refine Below.drew ?_ | refine below_drewN ?_ _) | ((with_reducible first | refine Lc ?_ ?_ _ | refine Ls ?_ ?_ _ | refine Lv (by assumption) ?_ ?_); · first | exact Nat.le_refl _ | omega | (simp; done) | (simp; omega) | (simp at *; omega))))).mono hsW)).mono (by first | exact Nat.le_refl _ | omega | (simp; done) | (simp; omega))) hd).mono ?_; rintro e wd ⟨hbd, dA', dc', rfl, hod, hdc', hodr⟩; obtain ⟨hcd, hfd⟩ := bcell hbd; have hzd := hbd.size; (try simp only [World.size_drew, World.heap_drewN, World.size_alloc] at hzd); have r0 : wd.cell? ⟨W.heap.size + 1, 0, none⟩ = some (.slice none 0 0) := (by repeat (first | with_reducible assumption | (simp; done) | (with_reducible first | refine Kd ?_ | refine Kn ?_ | refine Kb (by assumption) ?_) | ((with_reducible first | refine Kw ?_ ?_ | refine Fw ?_) <;> first | with_reducible rfl | (simp; done)) | (with_reducible first | refine Ka _ ?_ | refine Ks _ (by first | exact Nat.le_refl _ | omega | (simp; done) | (simp; omega) | (simp at *; omega)) ?_ | refine Fd ?_ | refine Fn ?_ | refine Fb (by assumption) (by first | exact Nat.le_refl _ | omega | (simp; done) | (simp; omega) | (simp at *; omega)) ?_ | refine Fa _ (by first | exact Nat.le_refl _ | omega | (simp; done) | (simp; omega) | (simp at *; omega)) ?_ | refine Fs _ ?_))); have r1 : wd.cell? ⟨W.heap.size + 1, 1, none⟩ = some (.slice none 0 0) := (by repeat (first | with_reducible assumption | (simp; done) | (with_reducible first | refine Kd ?_ | refine Kn ?_ | refine Kb (by assumption) ?_) | ((with_reducible first | refine Kw ?_ ?_ | refine Fw ?_) <;> first | with_reducible rfl | (simp; done)) | (with_reducible first | refine Ka _ ?_ | refine Ks _ (by first | exact Nat.le_refl _ | omega | (simp; done) | (simp; omega) | (simp at *; omega)) ?_ | refine Fd ?_ | refine Fn ?_ | refine Fb (by assumption) (by first | exact Nat.le_refl _ | omega | (simp; done) | (simp; omega) | (simp at *; omega)) ?_ | refine Fa _ (by first | exact Nat.le_refl _ | omega | (simp; done) | (simp; omega) | (simp at *; omega)) ?_ | refine Fs _ ?_))); have r2 : wd.cell? ⟨W.heap.size + 1, 2, none⟩ = some (.slice none 0 0) := (by repeat (first | with_reducible assumption | (simp; done) | (with_reducible first | refine Kd ?_ | refine Kn ?_ | refine Kb (by assumption) ?_) | ((with_reducible first | refine Kw ?_ ?_ | refine Fw ?_) <;> first | with_reducible rfl | (simp; done)) | (with_reducible first | refine Ka _ ?_ | refine Ks _ (by first | exact Nat.le_refl _ | omega | (simp; done) | (simp; omega) | (simp at *; omega)) ?_ | refine Fd ?_ | refine Fn ?_ | refine Fb (by assumption) (by first | exact Nat.le_refl _ | omega | (simp; done) | (simp; omega) | (simp at *; omega)) ?_ | refine Fa _ (by first | exact Nat.le_refl _ | omega | (simp; done) | (simp; omega) | (simp at *; omega)) ?_ | refine Fs _ ?_))); have f0 : wd.frozen? ⟨W.heap.size + 1, 0, none⟩ = false := (by repeat (first | with_reducible assumption | (simp; done) | (with_reducible first | refine Kd ?_ | refine Kn ?_ | refine Kb (by assumption) ?_) | ((with_reducible first | refine Kw ?_ ?_ | refine Fw ?_) <;> first | with_reducible rfl | (simp; done)) | (with_reducible first | refine Ka _ ?_ | refine Ks _ (by first | exact Nat.le_refl _ | omega | (simp; done) | (simp; omega) | (simp at *; omega)) ?_ | refine Fd ?_ | refine Fn ?_ | refine Fb (by assumption) (by first | exact Nat.le_refl _ | omega | (simp; done) | (simp; omega) | (simp at *; omega)) ?_ | refine Fa _ (by first | exact Nat.le_refl _ | omega | (simp; done) | (simp; omega) | (simp at *; omega)) ?_ | refine Fs _ ?_))); have f1 : wd.frozen? ⟨W.heap.size + 1, 1, none⟩ = false := (by repeat (first | with_reducible assumption | (simp; done) | (with_reducible first | refine Kd ?_ | refine Kn ?_ | refine Kb (by assumption) ?_) | ((with_reducible first | refine Kw ?_ ?_ | refine Fw ?_) <;> first | with_reducible rfl | (simp; done)) | (with_reducible first | refine Ka _ ?_ | refine Ks _ (by first | exact Nat.le_refl _ | omega | (simp; done) | (simp; omega) | (simp at *; omega)) ?_ | refine Fd ?_ | refine Fn ?_ | refine Fb (by assumption) (by first | exact Nat.le_refl _ | omega | (simp; done) | (simp; omega) | (simp at *; omega)) ?_ | refine Fa _ (by first | exact Nat.le_refl _ | omega | (simp; done) | (simp; omega) | (simp at *; omega)) ?_ | refine Fs _ ?_))); have f2 : wd.frozen? ⟨W.heap.size + 1, 2, none⟩ = false := (by repeat (first | with_reducible assumption | (simp; done) | (with_reducible first | refine Kd ?_ | refine Kn ?_ | refine Kb (by assumption) ?_) | ((with_reducible first | refine Kw ?_ ?_ | refine Fw ?_) <;> first | with_reducible rfl | (simp; done)) | (with_reducible first | refine Ka _ ?_ | refine Ks _ (by first | exact Nat.le_refl _ | omega | (simp; done) | (simp; omega) | (simp at *; omega)) ?_ | refine Fd ?_ | refine Fn ?_ | refine Fb (by assumption) (by first | exact Nat.le_refl _ | omega | (simp; done) | (simp; omega) | (simp at *; omega)) ?_ | refine Fa _ (by first | exact Nat.le_refl _ | omega | (simp; done) | (simp; omega) | (simp at *; omega)) ?_ | refine Fs _ ?_))); clear hcd hfd) | (go_at_call 70; refine (copyO_wg vA r.m vc r.V _ ((HR.out.v.below (show Below W.heap.size w1 _ from (show Below w1.heap.size w1 _ from (by repeat (first | (with_reducible first | exact Below.refl _ _ | refine Below.drew ?_ | refine below_drewN ?_ _) | ((with_reducible first | refine Lc ?_ ?_ _ | refine Ls ?_ ?_ _ | refine Lv (by assumption) ?_ ?_); · first | exact Nat.le_refl _ | omega | (simp; done) | (simp; omega) | (simp at *; omega))))).mono hsW)).mono (by first | exact Nat.le_refl _ | omega | (simp; done) | (simp; omega))) hm).mono ?_; rintro e wg ⟨hbg, vA', vc', rfl, hov, hvc', hovr⟩; obtain ⟨hcg, hfg⟩ := bcell hbg; have hzg := hbg.size; (try simp only [World.size_drew, World.heap_drewN, World.size_alloc] at hzg); have r0 : wg.cell? ⟨W.heap.size + 1, 0, none⟩ = some (.slice none 0 0) := (by repeat (first | with_reducible assumption | (simp; done) | (with_reducible first | refine Kd ?_ | refine Kn ?_ | refine Kb (by assumption) ?_) | ((with_reducible first | refine Kw ?_ ?_ | refine Fw ?_) <;> first | with_reducible rfl | (simp; done)) | (with_reducible first | refine Ka _ ?_ | refine Ks _ (by first | exact Nat.le_refl _ | omega | (simp; done) | (simp; omega) | (simp at *; omega)) ?_ | refine Fd ?_ | refine Fn ?_ | refine Fb (by assumption) (by first | exact Nat.le_refl _ | omega | (simp; done) | (simp; omega) | (simp at *; omega)) ?_ | refine Fa _ (by first | exact Nat.le_refl _ | omega | (simp; done) | (simp; omega) | (simp at *; omega)) ?_ | refine Fs _ ?_))); have r1 : wg.cell? ⟨W.heap.size + 1, 1, none⟩ = some (.slice none 0 0) := (by repeat (first | with_reducible assumption | (simp; done) | (with_reducible first | refine Kd ?_ | refine Kn ?_ | refine Kb (by assumption) ?_) | ((with_reducible first | refine Kw ?_ ?_ | refine Fw ?_) <;> first | with_reducible rfl | (simp; done)) | (with_reducible first | refine Ka _ ?_ | refine Ks _ (by first | exact Nat.le_refl _ | omega | (simp; done) | (simp; omega) | (simp at *; omega)) ?_ | refine Fd ?_ | refine Fn ?_ | refine Fb (by assumption) (by first | exact Nat.le_refl _ | omega | (simp; done) | (simp; omega) | (simp at *; omega)) ?_ | refine Fa _ (by first | exact Nat.le_refl _ | omega | (simp; done) | (simp; omega) | (simp at *; omega)) ?_ | refine Fs _ ?_))); have r2 : wg.cell? ⟨W.heap.size + 1, 2, none⟩ = some (.slice none 0 0) := (by repeat (first | with_reducible assumption | (simp; done) | (with_reducible first | refine Kd ?_ | refine Kn ?_ | refine Kb (by assumption) ?_) | ((with_reducible first | refine Kw ?_ ?_ | refine Fw ?_) <;> first | with_reducible rfl | (simp; done)) | (with_reducible first | refine Ka _ ?_ | refine Ks _ (by first | exact Nat.le_refl _ | omega | (simp; done) | (simp; omega) | (simp at *; omega)) ?_ | refine Fd ?_ | refine Fn ?_ | refine Fb (by assumption) (by first | exact Nat.le_refl _ | omega | (simp; done) | (simp; omega) | (simp at *; omega)) ?_ | refine Fa _ (by first | exact Nat.le_refl _ | omega | (simp; done) | (simp; omega) | (simp at *; omega)) ?_ | refine Fs _ ?_))); have f0 : wg.frozen? ⟨W.heap.size + 1, 0, none⟩ = false := (by repeat (first | with_reducible assumption | (simp; done) | (with_reducible first | refine Kd ?_ | refine Kn ?_ | refine Kb (by assumption) ?_) | ((with_reducible first | refine Kw ?_ ?_ | refine Fw ?_) <;> first | with_reducible rfl | (simp; done)) | (with_reducible first | refine Ka _ ?_ | refine Ks _ (by first | exact Nat.le_refl _ | omega | (simp; done) | (simp; omega) | (simp at *; omega)) ?_ | refine Fd ?_ | refine Fn ?_ | refine Fb (by assumption) (by first | exact Nat.le_refl _ | omega | (simp; done) | (simp; omega) | (simp at *; omega)) ?_ | refine Fa _ (by first | exact Nat.le_refl _ | omega | (simp; done) | (simp; omega) | (simp at *; omega)) ?_ | refine Fs _ ?_))); have f1 : wg.frozen? ⟨W.heap.size + 1, 1, none⟩ = false := (by repeat (first | with_reducible assumption | (simp; done) | (with_reducible first | refine Kd ?_ | refine Kn ?_ | refine Kb (by assumption) ?_) | ((with_reducible first | refine Kw ?_ ?_ | refine Fw ?_) <;> first | with_reducible rfl | (simp; done)) | (with_reducible first | refine Ka _ ?_ | refine Ks _ (by first | exact Nat.le_refl _ | omega | (simp; done) | (simp; omega) | (simp at *; omega)) ?_ | refine Fd ?_ | refine Fn ?_ | refine Fb (by assumption) (by first | exact Nat.le_refl _ | omega | (simp; done) | (simp; omega) | (simp at *; omega)) ?_ | refine Fa _ (by first | exact Nat.le_refl _ | omega | (simp; done) | (simp; omega) | (simp at *; omega)) ?_ | refine Fs _ ?_))); have f2 : wg.frozen? ⟨W.heap.size + 1, 2, none⟩ = false := (by repeat (first | with_reducible assumption | (simp; done) | (with_reducible first | refine Kd ?_ | refine Kn ?_ | refine Kb (by assumption) ?_) | ((with_reducible first | refine Kw ?_ ?_ | refine Fw ?_) <;> first | with_reducible rfl | (simp; done)) | (with_reducible first | refine Ka _ ?_ | refine Ks _ (by first | exact Nat.le_refl _ | omega | (simp; done) | (simp; omega) | (simp at *; omega)) ?_ | refine Fd ?_ | refine Fn ?_ | refine Fb (by assumption) (by first | exact Nat.le_refl _ | omega | (simp; done) | (simp; omega) | (simp at *; omega)) ?_ | refine Fa _ (by first | exact Nat.le_refl _ | omega | (simp; done) | (simp; omega) | (simp at *; omega)) ?_ | refine Fs _ ?_))); clear hcg hfg))
  have hz1 : w1.heap.size ≤ w1.drew.heap.size := by simp
  have HB := Lib.hid (hb1f HB1.out hbg hbd hba hsW)
  have HOB := Lib.hid (owns_later (owns_later hobr hbd) hbg)
  have HOBn := Lib.hid ((hob.later hbd).later hbg)
  have HOD := Lib.hid (hod.later hbg)
  have HOV := Lib.hid hovr
  have hxs : W.heap.size + 2 ≤ w1.drew.heap.size ∧ w1.drew.heap.size ≤ wa.heap.size := by
    rw [World.size_drew]
    exact ⟨hs1, hza⟩
  clear hba hob hobr hbd hod hodr hbg hov hovr c0 c1 c2
  go_wp2_with fail
  refine name_post ?_
  intro w' hw
  have hk : ∀ i, i ≠ W.heap.size + 1 → w'.heap[i]? = wg.heap[i]? := fun i hi => by
    rw [hw]
    exact (set_heap _ (by exact hi)).trans ((set_heap _ (by exact hi)).trans (set_heap _ (by exact hi)))
  have hbf : Below W.heap.size W w' := by
    rw [hw]
    exact ((HB.out.setCell (by dsimp only; omega) _).setCell (by dsimp only; omega) _).setCell (by dsimp only; omega) _
  have hres : w'.cell? ⟨W.heap.size + 1, 0, none⟩ = some (.slice bA' r.n bc') ∧ w'.cell? ⟨W.heap.size + 1, 1, none⟩ = some (.slice dA' r.d dc') ∧ w'.cell? ⟨W.heap.size + 1, 2, none⟩ = some (.slice vA' r.m vc') := by
    rw [hw]
    exact ⟨by simp [go_sem, r0], by simp [go_sem, r0, r1], by simp [go_sem, r0, r1, r2]⟩
  clear hw
  obtain ⟨s0, s1, s2⟩ := hres
  exact bodyPost_ret (v := rwV bA' r.n bc' dA' r.d dc' vA' r.m vc') (by simp [results, Tryz.results13, go_sem, s0, s1, s2]) rfl ⟨bA', dA', vA', bc', dc', vc', rfl, (HOBn.out.keep (fun b h1 h2 => hk b (by omega))).low (by omega), (HOD.out.keep (fun b h1 h2 => hk b (by omega))).low (by omega), owns_low (by omega) (owns_sm HOV.out (fun g h1 h2 => hk g (by omega))), ⟨hbc', hdc', hvc'⟩, hbf⟩

abbrev prV (x : Nat × Nat) : Value := .agg #[.int .i64 (x.1 : Nat), .int .i64 (x.2 : Nat)]
def prC (x : Nat × Nat) : List Value := [.int .i64 (x.1 : Nat), .int .i64 (x.2 : Nat)]
theorem prC_len (x : Nat × Nat) : (prC x).length = 2 := rfl
theorem prC_one (x : Nat × Nat) : ∀ v ∈ prC x, v.oneCell' = true := by
  intro v hv
  simp only [prC, List.mem_cons, List.not_mem_nil, or_false] at hv
  rcases hv with rfl | rfl <;> rfl
theorem infoPr : (Tryz.prog.info? 111).map (fun i => (i.zero, i.size, i.bytes)) = some (some (.agg #[.int .i64 0, .int .i64 0]), 2, 16) := by kernel_rfl
theorem prs_under : Tryz.prog.underlying 109 = some (.slice 111) := by kernel_rfl
/-- a row of pairs -/
def PrRow (w : World) (B : Nat) (A : Option Addr) (n : Nat) (P : Nat → Nat × Nat) : Prop :=
  ∀ k, k < n → ∃ b, A = some ⟨b, 0, none⟩ ∧ b < B ∧ w.cell? ⟨b, k * 2, none⟩ = some (.int .i64 ((P k).1 : Nat)) ∧ w.cell? ⟨b, k * 2 + 1, none⟩ = some (.int .i64 ((P k).2 : Nat))
theorem PrRow.below {w w' : World} {B : Nat} {A : Option Addr} {n : Nat} {P : Nat → Nat × Nat} (h : PrRow w B A n P) (hb : Below B w w') : PrRow w' B A n P := fun k hk => by
  obtain ⟨b, hA, hB, c0, c1⟩ := h k hk
  exact ⟨b, hA, hB, (hb.cell (p := ⟨b, _, none⟩) hB).trans c0, (hb.cell (p := ⟨b, _, none⟩) hB).trans c1⟩
theorem PrRow.mono {w : World} {B B' : Nat} {A : Option Addr} {n : Nat} {P : Nat → Nat × Nat} (h : PrRow w B A n P) (hb : B ≤ B') : PrRow w B' A n P := fun k hk => by
  obtain ⟨b, hA, hB, c⟩ := h k hk
  exact ⟨b, hA, Nat.lt_of_lt_of_le hB hb, c⟩
theorem PrRow.of {w : World} {base n : Nat} {v : Value} {P : Nat → Nat × Nat} (h : w.ownsRow base 111 2 v n (rowC prC P n)) : ∃ A c, v = .slice A n c ∧ PrRow w w.heap.size A n P := by
  rcases h.2 with ⟨rfl, h0⟩ | ⟨g, cap, cur, rfl, hb, hg, hc, _⟩
  · exact ⟨none, 0, by rw [h0], fun k hk => by omega⟩
  · refine ⟨some ⟨g, 0, none⟩, cap, rfl, fun k hk => ?_⟩
    have hcell : ∀ j v, (rowC prC P n)[j]? = some v → w.cell? ⟨g, j, none⟩ = some v := fun j v hv => by
      have h1 := h.cells (g := g) rfl j v hv
      rwa [show ((⟨g, 0, none⟩ : Addr).add j) = ⟨g, j, none⟩ by by_cases hj : j = 0 <;> simp [Addr.add, hj]] at h1
    have hl : g < w.heap.size := (Array.getElem?_eq_some_iff.1 hg).1
    exact ⟨g, rfl, hl, hcell _ _ (rowC_get (f := prC) (c := 2) prC_len P n k 0 hk (by omega)), hcell _ _ (rowC_get (f := prC) (c := 2) prC_len P n k 1 hk (by omega))⟩
/-- what pairs gives: pairs of bins -/
def PrsPost (n : Nat) (W : World) (e : Ending) (W' : World) : Prop :=
  ∃ (A : Option Addr) (c m : Nat) (P : Nat → Nat × Nat), e = .returned (.slice A m c) ∧ m ≤ 36 ∧ (∀ q, q < m → (P q).1 ≤ (P q).2 ∧ (P q).2 < n) ∧ PrRow W' W'.heap.size A m P ∧ Below W.heap.size W W'

set_option maxRecDepth 100000 in
set_option maxHeartbeats 4000000 in
theorem pairs_any (bA : Option Addr) (n bc : Nat) (v2 v3 : Value) (hn : n ≤ 6) (h2 : ∃ A k c, v2 = .slice A k c) (h3 : ∃ A k c, v3 = .slice A k c) (W : World) :
    Calls Tryz.prog 63 #[.agg #[.slice bA n bc, v2, v3]] W (PrsPost n W) := by
  obtain ⟨A2, k2, c2, rfl⟩ := h2
  obtain ⟨A3, k3, c3, rfl⟩ := h3
  obtain ⟨i0, hi, hz0, hz1, hz2⟩ := info_parts infoPr
  go_enter Tryz.func63, Tryz.ntmps63
  go_upto_region 2 with fail
  refine wp_world (fun W1 => W1.cell? ⟨W.heap.size, 0, none⟩ = some (.slice bA n bc) ∧ Below W.heap.size W W1 ∧ W.heap.size + 1 ≤ W1.heap.size) ⟨(by (repeat' refine And.intro ?_ ?_) <;> (repeat (first | with_reducible assumption | (simp; done) | (with_reducible first | refine Kd ?_ | refine Kn ?_ | refine Kb (by assumption) ?_) | ((with_reducible first | refine Kw ?_ ?_ | refine Fw ?_) <;> first | with_reducible rfl | (simp; done)) | (with_reducible first | refine Ka _ ?_ | refine Ks _ (by first | exact Nat.le_refl _ | omega | (simp; done) | (simp; omega)) ?_ | refine Fd ?_ | refine Fn ?_ | refine Fb (by assumption) (by first | exact Nat.le_refl _ | omega | (simp; done) | (simp; omega)) ?_ | refine Fa _ (by first | exact Nat.le_refl _ | omega | (simp; done) | (simp; omega)) ?_ | refine Fs _ ?_)))), (by repeat (first | (with_reducible first | exact Below.refl _ _ | assumption | refine Below.drew ?_) | ((with_reducible first | refine Lc ?_ ?_ _ | refine Ls ?_ ?_ _ | refine Lv (by assumption) ?_ ?_); · first | exact Nat.le_refl _ | omega | (dsimp only; omega) | (simp only [World.size_alloc, World.size_drew, World.heap_drewN]; omega) | (simp; omega)))), by simp⟩ ?_
  rintro w1 ⟨c0, hb1, hs1⟩
  have HC := Lib.hid c0
  have HB1 := Lib.hid hb1
  clear hb1
  go_wp2_with fail
  clear c0
  go_loopw [3, 9] (fun v i wr => ∃ (a m : Nat) (P : Nat → Nat × Nat), a ≤ n ∧ i = .int .i64 a ∧ m ≤ 6 * a ∧ Hid (wr.ownsRow w1.heap.size 111 2 v m (rowC prC P m)) ∧ Hid (∀ q, q < m → (P q).1 ≤ (P q).2 ∧ (P q).2 < n) ∧ Hid (Below w1.heap.size w1 wr)) (fun _ i _ => n - (intOf i).toNat)
  case atStart => exact ⟨0, 0, fun _ => (0, 0), Nat.zero_le _, rfl, by omega, Lib.hid (World.ownsRow_nil _ _ _ _), Lib.hid (fun q hq => absurd hq (by omega)), Lib.hid (Below.refl _ _)⟩
  case round =>
    obtain ⟨a, m, P, ha, rfl, hm, HO, HP, HB⟩ := hrel
    obtain ⟨wo, rfl⟩ : ∃ wo, wo = wr := ⟨_, rfl⟩
    by_cases hlt : a < n
    · have han : (a : Int) < (n : Int) := by omega
      have ha0 : (0 : Int) ≤ (a : Int) := by omega
      have ea : IntKind.i64.wrap ((a : Int) + 1) = (a : Int) + 1 := IntWalk.i64_in _ (by omega)
      go_wp2_with fail
      go_loopw [3, 5] (fun v i wr => ∃ (b m' : Nat) (P : Nat → Nat × Nat), a ≤ b ∧ b ≤ n ∧ i = .int .i64 b ∧ m' ≤ m + (b - a) ∧ Hid (wr.ownsRow w1.heap.size 111 2 v m' (rowC prC P m')) ∧ Hid (∀ q, q < m' → (P q).1 ≤ (P q).2 ∧ (P q).2 < n) ∧ Hid (Below w1.heap.size w1 wr)) (fun _ i _ => n - (intOf i).toNat)
      case atStart => exact ⟨a, m, P, Nat.le_refl _, by omega, rfl, by omega, HO, HP, HB⟩
      case round =>
        clear HO HP HB
        obtain ⟨b, m', P, hab, hb, rfl, hm', HO, HP, HB⟩ := hrel
        obtain ⟨wp, rfl⟩ : ∃ wp, wp = wr := ⟨_, rfl⟩
        have c0 := Kb HB.out HC.out
        have hsp := HB.out.size
        by_cases hltb : b < n
        · have hbn : (b : Int) < (n : Int) := by omega
          have eb : IntKind.i64.wrap ((b : Int) + 1) = (b : Int) + 1 := IntWalk.i64_in _ (by omega)
          have hv1 := HO.out.lt
          go_upto_region 7 with (at_builtin; refine wpList_append_lies _ rfl (.tmp 20) (.tmp 24) 109 rfl w1.heap.size 111 i0 (.agg #[.int .i64 0, .int .i64 0]) 2 16 prs_under hi hz0 hz1 hz2 rfl (by decide) _ m' (rowC prC P m') rfl (HO.out.alloc _) ⟨wp.heap.size, 0, none⟩ 1 1 (prC (a, b)) rfl rfl (new_cells (cs := prC (a, b))) (prC_one (a, b)) (by omega) (by unfold maxLen; omega) (by omega) (by simp; omega) (wp.heap.size + 1) (by simp) ?_; intro g cap w6 hown6 hgr6 hat6 hlt6)
          have hB6 : Below w1.heap.size wp w6 := Below.grown ((Below.refl _ wp).alloc (by omega) _) hgr6 (by simp; omega) (fun q hq => (hv1 q hq).1)
          have HO6 : Hid (w6.ownsRow w1.heap.size 111 2 (.slice (some ⟨g, 0, none⟩) (m' + 1) cap) (m' + 1) (rowC prC (fun j => if j = m' then (a, b) else P j) (m' + 1))) := Lib.hid (by rw [← rowC_put]; exact hown6)
          have HP6 : Hid (∀ q, q < m' + 1 → ((fun j => if j = m' then (a, b) else P j) q).1 ≤ ((fun j => if j = m' then (a, b) else P j) q).2 ∧ ((fun j => if j = m' then (a, b) else P j) q).2 < n) := Lib.hid (fun q hq => by
            dsimp only
            by_cases e : q = m'
            · rw [if_pos e]; exact ⟨hab, hltb⟩
            · rw [if_neg e]; exact HP.out q (by omega))
          have HB6 := Lib.hid (HB.out.trans hB6)
          clear hown6 hgr6 hat6 hlt6 hB6 c0
          go_wp2_with fail
          refine ⟨?_, ?measure⟩
          case measure => simp [intOf]; omega
          exact ⟨b + 1, m' + 1, _, by omega, by omega, by go_num, by omega, HO6, HP6, HB6⟩
        · obtain rfl : b = n := by omega
          have hge2 : ¬ (b : Int) < (b : Int) := by omega
          go_wp2_with fail
          refine ⟨?_, ?measure⟩
          case measure => simp [intOf]; omega
          exact ⟨a + 1, m', P, by omega, by go_num, by omega, HO, HP, HB⟩
    · obtain rfl : a = n := by omega
      have hge : ¬ (a : Int) < (a : Int) := by omega
      obtain ⟨A, c, rfl, hr⟩ := PrRow.of HO.out
      have HR := Lib.hid hr
      clear hr
      go_wp2_with fail
      go_ret
      exact ⟨A, c, m, P, rfl, by omega, HP.out, HR.out, HB1.out.trans (HB.out.mono (by omega))⟩
end Go.Proofs.YtnnikeolgknfoaaGreat

set_option linter.unusedSimpArgs false
set_option linter.unusedVariables false
namespace Go.Proofs.YtnnikeolgknfoaaGreat
open Go.RowKit Go.Shelf

set_option maxRecDepth 100000 in
set_option maxHeartbeats 1000000 in
theorem copy_int (A : Option Addr) (n c : Nat) (P : Nat → Int) (W : World) (hr : IntRow W W.heap.size A n P) (hn : n ≤ 1000) :
    Calls Tryz.prog 21 #[.slice A n c] W fun e W' => Below W.heap.size W W' ∧ ∃ A c', e = .returned (.slice A n c') ∧ OwnInt W' W.heap.size A n P ∧ n ≤ c' := by
  have HR := Lib.hid hr
  obtain ⟨i0, hi, hz0, hz1, hz2⟩ := info_parts infoInt
  by_cases h0 : n = 0
  · subst h0
    clear hr
    go_enter Tryz.func21, Tryz.ntmps21
    go_wp2_with fail
    go_ret
    exact ⟨Below.refl _ _, none, 0, rfl, fun k hk => by omega, Nat.le_refl _⟩
  · obtain ⟨a, rfl⟩ : ∃ a, A = some a := by cases A with | none => exact absurd (hr.none rfl) h0 | some a => exact ⟨a, rfl⟩
    have hb : ((n : Int) == 0) = false := by rw [beq_eq_false_iff_ne]; omega
    clear hr h0
    go_enter Tryz.func21, Tryz.ntmps21
    go_wp2_with (at_builtin; refine wpList_append_own _ rfl _ _ 31 rfl W.heap.size 3 i0 (.int .i64 0) 1 8 ints_under hi hz0 hz1 hz2 rfl (by decide) (.slice (some ⟨W.heap.size, 0, none⟩) 0 0) 0 [] rfl (World.ownsRow_made W #[] 0 (Nat.le_refl _) (Nat.zero_le _) rfl) a n c (numCells P n) rfl (by rw [numCells_len, Nat.mul_one]) ?c1 (numCells_one _ _) ?c3 ?c4 ?c5 ?_)
    case c1 =>
      intro j u hj
      exact Lib.cell?_alloc_some _ (HR.out.atN hj)
    case c3 => unfold maxLen; omega
    case c4 => omega
    case c5 => simp
    intro v' w1 hown hgrow hnil
    go_wp2
    go_ret
    have hB : Below W.heap.size W w1 := ((Below.refl _ W).alloc (Nat.le_refl _) _).grown hgrow (by simp) (by intro k hk; simp [Value.ownBlock] at hk; omega)
    obtain ⟨A, c', rfl, h1, h2⟩ := ownInt_T (X := P) (by simpa using hown)
    exact ⟨hB, A, c', rfl, h1, h2⟩

set_option maxRecDepth 100000 in
set_option maxHeartbeats 2000000 in
theorem alike_kd (A C : Option Addr) (n m ca cc : Nat) (X Y : Nat → Int) (W : World) (hA : IntRow W W.heap.size A n X) (hC : IntRow W W.heap.size C m Y) (hn : n ≤ 1000) :
    Calls Tryz.prog 78 #[.slice A n ca, .slice C m cc] W fun e W' => e = .returned (.bool (decide (n = m) && allN (fun k => decide (X k = Y k)) n)) ∧ Below W.heap.size W W' := by
  have HA := Lib.hid hA
  have HC := Lib.hid hC
  clear hA hC
  by_cases hnm : n = m
  · subst hnm
    have hb : ((n : Int) != (n : Int)) = false := by simp
    go_enter Tryz.func78, Tryz.ntmps78
    go_wp2_with fail
    go_loopw [14] (fun i wr => ∃ k : Nat, k ≤ n ∧ i = .int .i64 k ∧ Hid (allN (fun k => decide (X k = Y k)) k = true) ∧ wr = W) (fun i _ => n - (intOf i).toNat)
    case atStart => exact ⟨0, Nat.zero_le _, rfl, Lib.hid rfl, rfl⟩
    case round =>
      obtain ⟨k, hk, rfl, hal, rfl⟩ := hrel
      by_cases hlt : k < n
      · obtain ⟨b, o, rfl, hb1, c0⟩ := HA.out k hlt
        obtain ⟨b', o', rfl, hb2, d0⟩ := HC.out k hlt
        have hk0 : (0 : Int) ≤ (k : Int) := by omega
        have hkn : (k : Int) < (n : Int) := by omega
        cases hxy : X k != Y k with
        | false =>
          have hal2 : Hid (allN (fun k => decide (X k = Y k)) (k + 1) = true) := Lib.hid (by
            show (allN _ k && decide (X k = Y k)) = true
            rw [hal.out]
            have : X k = Y k := by simpa using hxy
            simp [this])
          go_wp2_with fail
          go_roundw
          case rel => exact ⟨k + 1, by omega, by go_num, hal2, trivial⟩
          case measure => simp [intOf]; omega
        | true =>
          have hno : Hid (allN (fun k => decide (X k = Y k)) n = false) := Lib.hid (by
            cases h : allN (fun k => decide (X k = Y k)) n with
            | false => rfl
            | true =>
              have h2 := allN_iff.1 h k hlt
              simp only [decide_eq_true_eq] at h2
              rw [h2] at hxy
              simp at hxy)
          go_wp2_with fail
          go_ret
          exact ⟨by rw [hno.out]; simp, Below.refl _ _⟩
      · obtain rfl : k = n := by omega
        have hge : ¬ (k : Int) < (k : Int) := by omega
        go_wp2_with fail
        go_ret
        exact ⟨by rw [hal.out]; simp, Below.refl _ _⟩
  · have hb : ((n : Int) != (m : Int)) = true := by rw [bne_iff_ne]; omega
    have HN := Lib.hid hnm
    clear hnm
    go_enter Tryz.func78, Tryz.ntmps78
    go_wp2_with fail
    go_ret
    exact ⟨by simp [HN.out], Below.refl _ _⟩

end Go.Proofs.YtnnikeolgknfoaaGreat

set_option linter.unusedSimpArgs false
set_option linter.unusedVariables false
namespace Go.Proofs.YtnnikeolgknfoaaGreat
open Go.RowKit Go.Shelf

theorem OwnBn.ofT {T : TypeId} {w : World} {base n : Nat} {v : Value} {P : Nat → Bn} (h : w.ownsRow base T 7 v n (rowC bnC P n)) : ∃ A c, v = .slice A n c ∧ OwnBn w base A n P ∧ n ≤ c := by
  rcases h.2 with ⟨rfl, h0⟩ | ⟨g, cap, cur, rfl, hb, hg, hc, _⟩
  · exact ⟨none, 0, by rw [h0], fun k hk => by omega, by omega⟩
  · refine ⟨some ⟨g, 0, none⟩, cap, rfl, fun k hk => ?_, hc⟩
    have key : ∀ j v, j < 7 → (bnC (P k))[j]? = some v → w.cell? ⟨g, k * 7 + j, none⟩ = some v := fun j v hj hv => by
      have h1 := h.cells (g := g) rfl (k * 7 + j) v (by rw [rowC_get bnC_len P n k j hk hj]; exact hv)
      rw [add_at] at h1
      exact h1
    exact ⟨g, rfl, hb, key 0 _ (by omega) rfl, key 1 _ (by omega) rfl, key 2 _ (by omega) rfl, key 3 _ (by omega) rfl, key 4 _ (by omega) rfl, key 5 _ (by omega) rfl, key 6 _ (by omega) rfl, fun i => frozen_of_row _ _ _ _ _ hg⟩
theorem OwnWg.ofT {T : TypeId} {w : World} {base n : Nat} {v : Value} {P : Nat → Wg} (h : w.ownsRow base T 4 v n (rowC wgC P n)) : ∃ A c, v = .slice A n c ∧ OwnWg w base A n P ∧ n ≤ c := by
  rcases h.2 with ⟨rfl, h0⟩ | ⟨g, cap, cur, rfl, hb, hg, hc, _⟩
  · exact ⟨none, 0, by rw [h0], fun k hk => by omega, by omega⟩
  · refine ⟨some ⟨g, 0, none⟩, cap, rfl, fun k hk => ?_, hc⟩
    have key : ∀ j v, j < 4 → (wgC (P k))[j]? = some v → w.cell? ⟨g, k * 4 + j, none⟩ = some v := fun j v hj hv => by
      have h1 := h.cells (g := g) rfl (k * 4 + j) v (by rw [rowC_get wgC_len P n k j hk hj]; exact hv)
      rw [add_at] at h1
      exact h1
    exact ⟨g, rfl, hb, key 0 _ (by omega) rfl, key 1 _ (by omega) rfl, key 2 _ (by omega) rfl, key 3 _ (by omega) rfl, fun i => frozen_of_row _ _ _ _ _ hg⟩
theorem infoRBn : (Tryz.prog.info? 122).map (fun i => (i.zero, i.size, i.bytes)) = some (some (.agg #[.int .i64 0, .int .i64 0, .int .i64 0, .int .i64 0, .int .i64 0, .int .i64 0, .int .i64 0]), 7, 56) := by kernel_rfl
theorem rbns_under : Tryz.prog.underlying 30 = some (.slice 122) := by kernel_rfl
theorem infoRWg : (Tryz.prog.info? 123).map (fun i => (i.zero, i.size, i.bytes)) = some (some (.agg #[.int .i64 0, .int .i64 0, .int .i64 0, .int .i64 0]), 4, 32) := by kernel_rfl
theorem rwgs_under : Tryz.prog.underlying 32 = some (.slice 123) := by kernel_rfl
/-- a row of one's own -/
def TheirPost (r : Rw) (W : World) (e : Ending) (W' : World) : Prop :=
  ∃ (bA dA vA : Option Addr) (bc dc vc : Nat), e = .returned (rwV bA r.n bc dA r.d dc vA r.m vc) ∧ OwnBn W' W.heap.size bA r.n r.B ∧ OwnInt W' W.heap.size dA r.d r.D ∧ OwnWg W' W.heap.size vA r.m r.V ∧ (r.n ≤ bc ∧ r.d ≤ dc ∧ r.m ≤ vc) ∧ Below W.heap.size W W'

set_option maxRecDepth 100000 in
set_option maxHeartbeats 8000000 in
theorem theirs_any (r : Rw) (bA dA vA : Option Addr) (bc dc vc : Nat) (W : World) (hrow : RwRow W W.heap.size r bA bc dA dc vA vc) :
    Calls Tryz.prog 14 #[rwV bA r.n bc dA r.d dc vA r.m vc] W (TheirPost r W) := by
  have H0 := Lib.hid hrow
  have hn := hrow.n1
  have hd := hrow.d1
  have hm := hrow.m1
  clear hrow
  obtain ⟨i0, hi, hz0, hz1, hz2⟩ := info_parts infoRBn
  obtain ⟨j0, ji, jz0, jz1, jz2⟩ := info_parts infoInt
  obtain ⟨k0, ki, kz0, kz1, kz2⟩ := info_parts infoRWg
  go_enter Tryz.func14, Tryz.ntmps14
  go_upto_region 2 with fail
  refine wp_world (fun W1 => RwAt W1 W.heap.size r bA bc dA dc vA vc ∧ V3 W1 (W.heap.size + 1) (.slice none 0 0) (.slice none 0 0) (.slice none 0 0) ∧ V3 W1 (W.heap.size + 2) (.slice none 0 0) (.slice none 0 0) (.slice none 0 0) ∧ Below W.heap.size W W1 ∧ W.heap.size + 3 ≤ W1.heap.size) ⟨⟨(by (repeat' refine And.intro ?_ ?_) <;> (repeat (first | with_reducible assumption | (simp; done) | (with_reducible first | refine Kd ?_ | refine Kn ?_ | refine Kb (by assumption) ?_) | ((with_reducible first | refine Kw ?_ ?_ | refine Fw ?_) <;> first | with_reducible rfl | (simp; done)) | (with_reducible first | refine Ka _ ?_ | refine Ks _ (by first | exact Nat.le_refl _ | omega | (simp; done) | (simp; omega)) ?_ | refine Fd ?_ | refine Fn ?_ | refine Fb (by assumption) (by first | exact Nat.le_refl _ | omega | (simp; done) | (simp; omega)) ?_ | refine Fa _ (by first | exact Nat.le_refl _ | omega | (simp; done) | (simp; omega)) ?_ | refine Fs _ ?_)))), (by (repeat' refine And.intro ?_ ?_) <;> (repeat (first | with_reducible assumption | (simp; done) | (with_reducible first | refine Kd ?_ | refine Kn ?_ | refine Kb (by assumption) ?_) | ((with_reducible first | refine Kw ?_ ?_ | refine Fw ?_) <;> first | with_reducible rfl | (simp; done)) | (with_reducible first | refine Ka _ ?_ | refine Ks _ (by first | exact Nat.le_refl _ | omega | (simp; done) | (simp; omega)) ?_ | refine Fd ?_ | refine Fn ?_ | refine Fb (by assumption) (by first | exact Nat.le_refl _ | omega | (simp; done) | (simp; omega)) ?_ | refine Fa _ (by first | exact Nat.le_refl _ | omega | (simp; done) | (simp; omega)) ?_ | refine Fs _ ?_)))), (by (repeat' refine And.intro ?_ ?_) <;> (repeat (first | with_reducible assumption | (simp; done) | (with_reducible first | refine Kd ?_ | refine Kn ?_ | refine Kb (by assumption) ?_) | ((with_reducible first | refine Kw ?_ ?_ | refine Fw ?_) <;> first | with_reducible rfl | (simp; done)) | (with_reducible first | refine Ka _ ?_ | refine Ks _ (by first | exact Nat.le_refl _ | omega | (simp; done) | (simp; omega)) ?_ | refine Fd ?_ | refine Fn ?_ | refine Fb (by assumption) (by first | exact Nat.le_refl _ | omega | (simp; done) | (simp; omega)) ?_ | refine Fa _ (by first | exact Nat.le_refl _ | omega | (simp; done) | (simp; omega)) ?_ | refine Fs _ ?_))))⟩, ⟨(by (repeat' refine And.intro ?_ ?_) <;> (repeat (first | with_reducible assumption | (simp; done) | (with_reducible first | refine Kd ?_ | refine Kn ?_ | refine Kb (by assumption) ?_) | ((with_reducible first | refine Kw ?_ ?_ | refine Fw ?_) <;> first | with_reducible rfl | (simp; done)) | (with_reducible first | refine Ka _ ?_ | refine Ks _ (by first | exact Nat.le_refl _ | omega | (simp; done) | (simp; omega)) ?_ | refine Fd ?_ | refine Fn ?_ | refine Fb (by assumption) (by first | exact Nat.le_refl _ | omega | (simp; done) | (simp; omega)) ?_ | refine Fa _ (by first | exact Nat.le_refl _ | omega | (simp; done) | (simp; omega)) ?_ | refine Fs _ ?_)))), (by (repeat' refine And.intro ?_ ?_) <;> (repeat (first | with_reducible assumption | (simp; done) | (with_reducible first | refine Kd ?_ | refine Kn ?_ | refine Kb (by assumption) ?_) | ((with_reducible first | refine Kw ?_ ?_ | refine Fw ?_) <;> first | with_reducible rfl | (simp; done)) | (with_reducible first | refine Ka _ ?_ | refine Ks _ (by first | exact Nat.le_refl _ | omega | (simp; done) | (simp; omega)) ?_ | refine Fd ?_ | refine Fn ?_ | refine Fb (by assumption) (by first | exact Nat.le_refl _ | omega | (simp; done) | (simp; omega)) ?_ | refine Fa _ (by first | exact Nat.le_refl _ | omega | (simp; done) | (simp; omega)) ?_ | refine Fs _ ?_)))), (by (repeat' refine And.intro ?_ ?_) <;> (repeat (first | with_reducible assumption | (simp; done) | (with_reducible first | refine Kd ?_ | refine Kn ?_ | refine Kb (by assumption) ?_) | ((with_reducible first | refine Kw ?_ ?_ | refine Fw ?_) <;> first | with_reducible rfl | (simp; done)) | (with_reducible first | refine Ka _ ?_ | refine Ks _ (by first | exact Nat.le_refl _ | omega | (simp; done) | (simp; omega)) ?_ | refine Fd ?_ | refine Fn ?_ | refine Fb (by assumption) (by first | exact Nat.le_refl _ | omega | (simp; done) | (simp; omega)) ?_ | refine Fa _ (by first | exact Nat.le_refl _ | omega | (simp; done) | (simp; omega)) ?_ | refine Fs _ ?_)))), (by (repeat' refine And.intro ?_ ?_) <;> (repeat (first | with_reducible assumption | (simp; done) | (with_reducible first | refine Kd ?_ | refine Kn ?_ | refine Kb (by assumption) ?_) | ((with_reducible first | refine Kw ?_ ?_ | refine Fw ?_) <;> first | with_reducible rfl | (simp; done)) | (with_reducible first | refine Ka _ ?_ | refine Ks _ (by first | exact Nat.le_refl _ | omega | (simp; done) | (simp; omega)) ?_ | refine Fd ?_ | refine Fn ?_ | refine Fb (by assumption) (by first | exact Nat.le_refl _ | omega | (simp; done) | (simp; omega)) ?_ | refine Fa _ (by first | exact Nat.le_refl _ | omega | (simp; done) | (simp; omega)) ?_ | refine Fs _ ?_)))), (by (repeat' refine And.intro ?_ ?_) <;> (repeat (first | with_reducible assumption | (simp; done) | (with_reducible first | refine Kd ?_ | refine Kn ?_ | refine Kb (by assumption) ?_) | ((with_reducible first | refine Kw ?_ ?_ | refine Fw ?_) <;> first | with_reducible rfl | (simp; done)) | (with_reducible first | refine Ka _ ?_ | refine Ks _ (by first | exact Nat.le_refl _ | omega | (simp; done) | (simp; omega)) ?_ | refine Fd ?_ | refine Fn ?_ | refine Fb (by assumption) (by first | exact Nat.le_refl _ | omega | (simp; done) | (simp; omega)) ?_ | refine Fa _ (by first | exact Nat.le_refl _ | omega | (simp; done) | (simp; omega)) ?_ | refine Fs _ ?_)))), (by (repeat' refine And.intro ?_ ?_) <;> (repeat (first | with_reducible assumption | (simp; done) | (with_reducible first | refine Kd ?_ | refine Kn ?_ | refine Kb (by assumption) ?_) | ((with_reducible first | refine Kw ?_ ?_ | refine Fw ?_) <;> first | with_reducible rfl | (simp; done)) | (with_reducible first | refine Ka _ ?_ | refine Ks _ (by first | exact Nat.le_refl _ | omega | (simp; done) | (simp; omega)) ?_ | refine Fd ?_ | refine Fn ?_ | refine Fb (by assumption) (by first | exact Nat.le_refl _ | omega | (simp; done) | (simp; omega)) ?_ | refine Fa _ (by first | exact Nat.le_refl _ | omega | (simp; done) | (simp; omega)) ?_ | refine Fs _ ?_))))⟩, ⟨(by (repeat' refine And.intro ?_ ?_) <;> (repeat (first | with_reducible assumption | (simp; done) | (with_reducible first | refine Kd ?_ | refine Kn ?_ | refine Kb (by assumption) ?_) | ((with_reducible first | refine Kw ?_ ?_ | refine Fw ?_) <;> first | with_reducible rfl | (simp; done)) | (with_reducible first | refine Ka _ ?_ | refine Ks _ (by first | exact Nat.le_refl _ | omega | (simp; done) | (simp; omega)) ?_ | refine Fd ?_ | refine Fn ?_ | refine Fb (by assumption) (by first | exact Nat.le_refl _ | omega | (simp; done) | (simp; omega)) ?_ | refine Fa _ (by first | exact Nat.le_refl _ | omega | (simp; done) | (simp; omega)) ?_ | refine Fs _ ?_)))), (by (repeat' refine And.intro ?_ ?_) <;> (repeat (first | with_reducible assumption | (simp; done) | (with_reducible first | refine Kd ?_ | refine Kn ?_ | refine Kb (by assumption) ?_) | ((with_reducible first | refine Kw ?_ ?_ | refine Fw ?_) <;> first | with_reducible rfl | (simp; done)) | (with_reducible first | refine Ka _ ?_ | refine Ks _ (by first | exact Nat.le_refl _ | omega | (simp; done) | (simp; omega)) ?_ | refine Fd ?_ | refine Fn ?_ | refine Fb (by assumption) (by first | exact Nat.le_refl _ | omega | (simp; done) | (simp; omega)) ?_ | refine Fa _ (by first | exact Nat.le_refl _ | omega | (simp; done) | (simp; omega)) ?_ | refine Fs _ ?_)))), (by (repeat' refine And.intro ?_ ?_) <;> (repeat (first | with_reducible assumption | (simp; done) | (with_reducible first | refine Kd ?_ | refine Kn ?_ | refine Kb (by assumption) ?_) | ((with_reducible first | refine Kw ?_ ?_ | refine Fw ?_) <;> first | with_reducible rfl | (simp; done)) | (with_reducible first | refine Ka _ ?_ | refine Ks _ (by first | exact Nat.le_refl _ | omega | (simp; done) | (simp; omega)) ?_ | refine Fd ?_ | refine Fn ?_ | refine Fb (by assumption) (by first | exact Nat.le_refl _ | omega | (simp; done) | (simp; omega)) ?_ | refine Fa _ (by first | exact Nat.le_refl _ | omega | (simp; done) | (simp; omega)) ?_ | refine Fs _ ?_)))), (by (repeat' refine And.intro ?_ ?_) <;> (repeat (first | with_reducible assumption | (simp; done) | (with_reducible first | refine Kd ?_ | refine Kn ?_ | refine Kb (by assumption) ?_) | ((with_reducible first | refine Kw ?_ ?_ | refine Fw ?_) <;> first | with_reducible rfl | (simp; done)) | (with_reducible first | refine Ka _ ?_ | refine Ks _ (by first | exact Nat.le_refl _ | omega | (simp; done) | (simp; omega)) ?_ | refine Fd ?_ | refine Fn ?_ | refine Fb (by assumption) (by first | exact Nat.le_refl _ | omega | (simp; done) | (simp; omega)) ?_ | refine Fa _ (by first | exact Nat.le_refl _ | omega | (simp; done) | (simp; omega)) ?_ | refine Fs _ ?_)))), (by (repeat' refine And.intro ?_ ?_) <;> (repeat (first | with_reducible assumption | (simp; done) | (with_reducible first | refine Kd ?_ | refine Kn ?_ | refine Kb (by assumption) ?_) | ((with_reducible first | refine Kw ?_ ?_ | refine Fw ?_) <;> first | with_reducible rfl | (simp; done)) | (with_reducible first | refine Ka _ ?_ | refine Ks _ (by first | exact Nat.le_refl _ | omega | (simp; done) | (simp; omega)) ?_ | refine Fd ?_ | refine Fn ?_ | refine Fb (by assumption) (by first | exact Nat.le_refl _ | omega | (simp; done) | (simp; omega)) ?_ | refine Fa _ (by first | exact Nat.le_refl _ | omega | (simp; done) | (simp; omega)) ?_ | refine Fs _ ?_)))), (by (repeat' refine And.intro ?_ ?_) <;> (repeat (first | with_reducible assumption | (simp; done) | (with_reducible first | refine Kd ?_ | refine Kn ?_ | refine Kb (by assumption) ?_) | ((with_reducible first | refine Kw ?_ ?_ | refine Fw ?_) <;> first | with_reducible rfl | (simp; done)) | (with_reducible first | refine Ka _ ?_ | refine Ks _ (by first | exact Nat.le_refl _ | omega | (simp; done) | (simp; omega)) ?_ | refine Fd ?_ | refine Fn ?_ | refine Fb (by assumption) (by first | exact Nat.le_refl _ | omega | (simp; done) | (simp; omega)) ?_ | refine Fa _ (by first | exact Nat.le_refl _ | omega | (simp; done) | (simp; omega)) ?_ | refine Fs _ ?_))))⟩, (by repeat (first | (with_reducible first | exact Below.refl _ _ | assumption | refine Below.drew ?_) | ((with_reducible first | refine Lc ?_ ?_ _ | refine Ls ?_ ?_ _ | refine Lv (by assumption) ?_ ?_); · first | exact Nat.le_refl _ | omega | (dsimp only; omega) | (simp only [World.size_alloc, World.size_drew, World.heap_drewN]; omega) | (simp; omega)))), by simp⟩ ?_
  rintro w1 ⟨ha1, hq1, ho1, hb1, hs1⟩
  have HA := Lib.hid ha1
  have HQ := Lib.hid hq1
  have HO1 := Lib.hid ho1
  have HB1 := Lib.hid hb1
  have HG1 := Lib.hid (World.grownBy.refl w1 (some (W.heap.size + 2)))
  obtain ⟨a0, a1, a2⟩ := ha1
  clear hq1 ho1 hb1
  go_wp2_with fail
  clear a0 a1 a2
  go_loopw [13] (fun i wr => ∃ (k : Nat) (v : Value), k ≤ r.n ∧ i = .int .i64 k ∧ Hid (V3 wr (W.heap.size + 2) v (.slice none 0 0) (.slice none 0 0)) ∧ Hid (wr.ownsRow w1.heap.size 122 7 v k (rowC bnC r.B k)) ∧ Hid (w1.grownBy wr (some (W.heap.size + 2))) ∧ Hid (w1.grownBy wr (some (W.heap.size + 2))) ∧ w1.heap.size ≤ wr.heap.size) (fun i _ => r.n - (intOf i).toNat)
  case atStart => exact ⟨0, _, Nat.zero_le _, rfl, HO1, Lib.hid (World.ownsRow_nil _ _ _ _), HG1, Lib.hid (World.grownBy.refl _ _), Nat.le_refl _⟩
  case round =>
    obtain ⟨k, v, hk, rfl, HO, HV, HG, HGB, hsz⟩ := hrel
    obtain ⟨wo, rfl⟩ : ∃ wo, wo = wr := ⟨_, rfl⟩
    have hkk : ∀ i, i < W.heap.size + 2 → wo.heap[i]? = w1.heap[i]? := fun i hi => HG.out.block i (by omega) (fun e => by injection e with e; omega)
    have HBW := Lib.hid (HB1.out.trans (gb_below (B := W.heap.size) HG.out (by omega) (by omega)))
    obtain ⟨a0, a1, a2⟩ := HA.out.same (hkk _ (by omega))
    have hsW := HBW.out.size
    by_cases hlt : k < r.n
    · have hk0 : (0 : Int) ≤ (k : Int) := by omega
      have hkn : (k : Int) < (r.n : Int) := by omega
      have ek : IntKind.i64.wrap ((k : Int) + 1) = (k : Int) + 1 := IntWalk.i64_in _ (by omega)
      obtain ⟨b, o, hA', hbl, d0, d1, d2, d3, d4, d5, d6⟩ := (H0.out.later HBW.out).b k hlt
      subst hA'
      obtain ⟨x, hx⟩ : ∃ x, x = r.B k := ⟨_, rfl⟩
      rw [← hx] at d0 d1 d2 d3 d4 d5 d6
      have HX := Lib.hid hx
      have hv1 := HV.out.lt
      clear hx hkk
      go_upto_region 5 with fail
      refine wp_world (fun w' => (w'.cell? ⟨wo.heap.size, 0, none⟩ = some (.int .i64 (x.lo 0)) ∧ w'.cell? ⟨wo.heap.size, 1, none⟩ = some (.int .i64 (x.hi 0)) ∧ w'.cell? ⟨wo.heap.size, 2, none⟩ = some (.int .i64 (x.lo 1)) ∧ w'.cell? ⟨wo.heap.size, 3, none⟩ = some (.int .i64 (x.hi 1)) ∧ w'.cell? ⟨wo.heap.size, 4, none⟩ = some (.int .i64 (x.lo 2)) ∧ w'.cell? ⟨wo.heap.size, 5, none⟩ = some (.int .i64 (x.hi 2)) ∧ w'.cell? ⟨wo.heap.size, 6, none⟩ = some (.int .i64 x.s)) ∧ Below wo.heap.size wo w' ∧ wo.heap.size + 1 ≤ w'.heap.size) ⟨(by (repeat' refine And.intro ?_ ?_) <;> (repeat (first | with_reducible assumption | (simp; done) | (with_reducible first | refine Kd ?_ | refine Kn ?_ | refine Kb (by assumption) ?_) | ((with_reducible first | refine Kw ?_ ?_ | refine Fw ?_) <;> first | with_reducible rfl | (simp; done)) | (with_reducible first | refine Ka _ ?_ | refine Ks _ (by first | exact Nat.le_refl _ | omega | (simp; done) | (simp; omega)) ?_ | refine Fd ?_ | refine Fn ?_ | refine Fb (by assumption) (by first | exact Nat.le_refl _ | omega | (simp; done) | (simp; omega)) ?_ | refine Fa _ (by first | exact Nat.le_refl _ | omega | (simp; done) | (simp; omega)) ?_ | refine Fs _ ?_)))), (by repeat (first | (with_reducible first | exact Below.refl _ _ | assumption | refine Below.drew ?_) | ((with_reducible first | refine Lc ?_ ?_ _ | refine Ls ?_ ?_ _ | refine Lv (by assumption) ?_ ?_); · first | exact Nat.le_refl _ | omega | (dsimp only; omega) | (simp only [World.size_alloc, World.size_drew, World.heap_drewN]; omega) | (simp; omega)))), by simp⟩ ?_
      rintro wq ⟨hxq, hbq, hsq⟩
      have HXQ := Lib.hid hxq
      have HOQ := Lib.hid (HO.out.same (hbq.block _ (by omega)))
      have HVQ := Lib.hid (owns_later HV.out hbq)
      have HGQ := Lib.hid (gb_trans HG.out (gb_of_below _ hbq))
      have HGBQ := Lib.hid (gb_trans HGB.out (gb_of_below _ hbq))
      clear hxq hbq HO HV HG HGB a0 a1 a2 d0 d1 d2 d3 d4 d5 d6
      obtain ⟨o0, o1, o2, f0, f1, f2⟩ := HOQ.out
      obtain ⟨e0, e1, e2, e3, e4, e5, e6⟩ := HXQ.out
      have hv1 := HVQ.out.lt
      go_upto_region 6 with (at_builtin; refine wpList_append_lies _ rfl (.tmp 18) (.tmp 20) 30 rfl w1.heap.size 122 i0 (.agg #[.int .i64 0, .int .i64 0, .int .i64 0, .int .i64 0, .int .i64 0, .int .i64 0, .int .i64 0]) 7 56 rbns_under hi hz0 hz1 hz2 rfl (by decide) v k (rowC bnC r.B k) rfl (HVQ.out.alloc _) ⟨wq.heap.size, 0, none⟩ 1 1 (bnC x) rfl rfl (new_cells (cs := bnC x)) (bnC_one x) (by omega) (by unfold maxLen; omega) (by omega) (by simp; omega) (wq.heap.size + 1) (by simp) ?_; intro g cap w6 hown6 hgr6 hat6 hlt6; have s6 : w6.heap[W.heap.size + 2]? = wq.heap[W.heap.size + 2]? := (hgr6.block _ (by simp; omega) (fun e => by have := (hv1 _ e.symm).1; omega)).trans (Below.heap_alloc _ _ _ (by omega)); have p0 := cell_same s6 o0; have p1 := cell_same s6 o1; have p2 := cell_same s6 o2; have q0 := fro_same s6 f0; have q1 := fro_same s6 f1; have q2 := fro_same s6 f2)
      clear s6 p0 p1 p2 q0 q1 q2 o0 o1 o2 f0 f1 f2 e0 e1 e2 e3 e4 e5 e6
      have hold : ∀ i, i < w1.heap.size → w6.heap[i]? = wq.heap[i]? := fun i hi => (hgr6.block i (by simp; omega) (fun e => by have := (hv1 i e.symm).1; omega)).trans (Below.heap_alloc _ _ _ (by omega))
      have hz6 := hgr6.size
      simp only [World.size_alloc] at hz6
      have HO7 : Hid (V3 (w6.setCell ⟨W.heap.size + 2, 0, none⟩ (.slice (some ⟨g, 0, none⟩) (k + 1) cap)) (W.heap.size + 2) (.slice (some ⟨g, 0, none⟩) (k + 1) cap) (.slice none 0 0) (.slice none 0 0)) := Lib.hid ((HOQ.out.same (hold _ (by omega))).set0 _)
      have HV7 : Hid ((w6.setCell ⟨W.heap.size + 2, 0, none⟩ (.slice (some ⟨g, 0, none⟩) (k + 1) cap)).ownsRow w1.heap.size 122 7 (.slice (some ⟨g, 0, none⟩) (k + 1) cap) (k + 1) (rowC bnC r.B (k + 1))) := Lib.hid (by
        have e : rowC bnC r.B (k + 1) = rowC bnC r.B k ++ bnC x := by rw [rowC, HX.out]
        rw [e]
        exact owns_sm hown6 (fun g h1 h2 => set_heap _ (by dsimp only; omega)))
      have HG7 : Hid (w1.grownBy (w6.setCell ⟨W.heap.size + 2, 0, none⟩ (.slice (some ⟨g, 0, none⟩) (k + 1) cap)) (some (W.heap.size + 2))) := Lib.hid (gb_trans (gb_own (gb_new HGQ.out _) hgr6 (fun g hg => by have := (hv1 g hg).1; omega)) (gb_set _ _ _ _))
      have HGB7 : Hid (w1.grownBy (w6.setCell ⟨W.heap.size + 2, 0, none⟩ (.slice (some ⟨g, 0, none⟩) (k + 1) cap)) (some (W.heap.size + 2))) := Lib.hid (gb_trans (gb_own (gb_new HGBQ.out _) hgr6 (fun g hg => (hv1 g hg).1)) (gb_set _ _ _ _))
      clear hown6 hgr6 hat6 hlt6 hold
      go_wp2_with fail
      refine ⟨?_, ?measure⟩
      case measure => simp [intOf]; omega
      exact ⟨k + 1, _, by omega, by go_num, HO7, HV7, HG7, HGB7, by simp only [World.setCell, Array.size_modify]; omega⟩
    · obtain rfl : k = r.n := by omega
      have hge : ¬ (r.n : Int) < (r.n : Int) := by omega
      obtain ⟨bA2, bc2, rfl, hob, hbc⟩ := OwnBn.ofT HV.out
      obtain ⟨w2, rfl⟩ : ∃ w2, w2 = wo := ⟨_, rfl⟩
      have HOB := Lib.hid hob
      have HO2 := Lib.hid HO.out
      have HG2 := Lib.hid HG.out
      have hs2 : w1.heap.size ≤ w2.heap.size := hsz
      clear hob HV HO HG HGB hkk hge
      go_wp2_with fail
      clear a0 a1 a2
      go_loopw [27] (fun i wr => ∃ (k : Nat) (v : Value), k ≤ r.d ∧ i = .int .i64 k ∧ Hid (V3 wr (W.heap.size + 2) (.slice bA2 r.n bc2) v (.slice none 0 0)) ∧ Hid (wr.ownsRow w2.heap.size 3 1 v k (numCells r.D k)) ∧ Hid (w1.grownBy wr (some (W.heap.size + 2))) ∧ Hid (w2.grownBy wr (some (W.heap.size + 2))) ∧ w2.heap.size ≤ wr.heap.size) (fun i _ => r.d - (intOf i).toNat)
      case atStart => exact ⟨0, _, Nat.zero_le _, rfl, HO2, Lib.hid (World.ownsRow_nil _ _ _ _), HG2, Lib.hid (World.grownBy.refl _ _), Nat.le_refl _⟩
      case round =>
        obtain ⟨k, v, hk, rfl, HO, HV, HG, HGB, hsz⟩ := hrel
        obtain ⟨wo, rfl⟩ : ∃ wo, wo = wr := ⟨_, rfl⟩
        have hkk : ∀ i, i < W.heap.size + 2 → wo.heap[i]? = w1.heap[i]? := fun i hi => HG.out.block i (by omega) (fun e => by injection e with e; omega)
        have HBW := Lib.hid (HB1.out.trans (gb_below (B := W.heap.size) HG.out (by omega) (by omega)))
        obtain ⟨a0, a1, a2⟩ := HA.out.same (hkk _ (by omega))
        have hsW := HBW.out.size
        by_cases hlt : k < r.d
        · have hk0 : (0 : Int) ≤ (k : Int) := by omega
          have hkn : (k : Int) < (r.d : Int) := by omega
          have ek : IntKind.i64.wrap ((k : Int) + 1) = (k : Int) + 1 := IntWalk.i64_in _ (by omega)
          obtain ⟨b, o, hA', hbl, d0⟩ := (H0.out.later HBW.out).d k hlt
          subst hA'
          obtain ⟨x, hx⟩ : ∃ x, x = r.D k := ⟨_, rfl⟩
          rw [← hx] at d0
          have HX := Lib.hid hx
          have hv1 := HV.out.lt
          clear hx hkk
          obtain ⟨o0, o1, o2, f0, f1, f2⟩ := HO.out
          go_upto_region 11 with (at_builtin; refine wpList_append_lies _ rfl (.tmp 32) (.tmp 34) 31 rfl w2.heap.size 3 j0 (.int .i64 0) 1 8 ints_under ji jz0 jz1 jz2 rfl (by decide) v k (numCells r.D k) rfl (HV.out.alloc _) ⟨wo.heap.size, 0, none⟩ 1 1 ([.int .i64 x]) rfl rfl (new_cells (cs := [.int .i64 x])) (by intro u hu; simp only [List.mem_cons, List.not_mem_nil, or_false] at hu; subst hu; rfl) (by omega) (by unfold maxLen; omega) (by omega) (by simp; omega) (wo.heap.size + 1) (by simp) ?_; intro g cap w6 hown6 hgr6 hat6 hlt6; have s6 : w6.heap[W.heap.size + 2]? = wo.heap[W.heap.size + 2]? := (hgr6.block _ (by simp; omega) (fun e => by have := (hv1 _ e.symm).1; omega)).trans (Below.heap_alloc _ _ _ (by omega)); have p0 := cell_same s6 o0; have p1 := cell_same s6 o1; have p2 := cell_same s6 o2; have q0 := fro_same s6 f0; have q1 := fro_same s6 f1; have q2 := fro_same s6 f2)
          clear s6 p0 p1 p2 q0 q1 q2 o0 o1 o2 f0 f1 f2
          have hold : ∀ i, i < w2.heap.size → w6.heap[i]? = wo.heap[i]? := fun i hi => (hgr6.block i (by simp; omega) (fun e => by have := (hv1 i e.symm).1; omega)).trans (Below.heap_alloc _ _ _ (by omega))
          have hz6 := hgr6.size
          simp only [World.size_alloc] at hz6
          have HO7 : Hid (V3 (w6.setCell ⟨W.heap.size + 2, 1, none⟩ (.slice (some ⟨g, 0, none⟩) (k + 1) cap)) (W.heap.size + 2) (.slice bA2 r.n bc2) (.slice (some ⟨g, 0, none⟩) (k + 1) cap) (.slice none 0 0)) := Lib.hid ((HO.out.same (hold _ (by omega))).set1 _)
          have HV7 : Hid ((w6.setCell ⟨W.heap.size + 2, 1, none⟩ (.slice (some ⟨g, 0, none⟩) (k + 1) cap)).ownsRow w2.heap.size 3 1 (.slice (some ⟨g, 0, none⟩) (k + 1) cap) (k + 1) (numCells r.D (k + 1))) := Lib.hid (by
            have e : numCells r.D (k + 1) = numCells r.D k ++ [.int .i64 x] := by rw [numCells_succ, HX.out]
            rw [e]
            exact owns_sm hown6 (fun g h1 h2 => set_heap _ (by dsimp only; omega)))
          have HG7 : Hid (w1.grownBy (w6.setCell ⟨W.heap.size + 2, 1, none⟩ (.slice (some ⟨g, 0, none⟩) (k + 1) cap)) (some (W.heap.size + 2))) := Lib.hid (gb_trans (gb_own (gb_new HG.out _) hgr6 (fun g hg => by have := (hv1 g hg).1; omega)) (gb_set _ _ _ _))
          have HGB7 : Hid (w2.grownBy (w6.setCell ⟨W.heap.size + 2, 1, none⟩ (.slice (some ⟨g, 0, none⟩) (k + 1) cap)) (some (W.heap.size + 2))) := Lib.hid (gb_trans (gb_own (gb_new HGB.out _) hgr6 (fun g hg => (hv1 g hg).1)) (gb_set _ _ _ _))
          clear hown6 hgr6 hat6 hlt6 hold
          go_wp2_with fail
          refine ⟨?_, ?measure⟩
          case measure => simp [intOf]; omega
          exact ⟨k + 1, _, by omega, by go_num, HO7, HV7, HG7, HGB7, by simp only [World.setCell, Array.size_modify]; omega⟩
        · obtain rfl : k = r.d := by omega
          have hge : ¬ (r.d : Int) < (r.d : Int) := by omega
          obtain ⟨dA2, dc2, rfl, hod, hdc⟩ := ownInt_T (X := r.D) HV.out
          obtain ⟨w3, rfl⟩ : ∃ w3, w3 = wo := ⟨_, rfl⟩
          have HOB3 := Lib.hid (HOB.out.keep (fun i h1 h2 => HGB.out.block i h2 (fun e => by injection e with e; omega)))
          have HOD := Lib.hid hod
          have HO3 := Lib.hid HO.out
          have HG3 := Lib.hid HG.out
          have hs3 : w1.heap.size ≤ w3.heap.size := by omega
          clear hod HV HO HG HGB hkk hge HO2 HG2
          go_wp2_with fail
          clear a0 a1 a2
          go_loopw [41] (fun i wr => ∃ (k : Nat) (v : Value), k ≤ r.m ∧ i = .int .i64 k ∧ Hid (V3 wr (W.heap.size + 2) (.slice bA2 r.n bc2) (.slice dA2 r.d dc2) v) ∧ Hid (wr.ownsRow w3.heap.size 123 4 v k (rowC wgC r.V k)) ∧ Hid (w1.grownBy wr (some (W.heap.size + 2))) ∧ Hid (w3.grownBy wr (some (W.heap.size + 2))) ∧ w3.heap.size ≤ wr.heap.size) (fun i _ => r.m - (intOf i).toNat)
          case atStart => exact ⟨0, _, Nat.zero_le _, rfl, HO3, Lib.hid (World.ownsRow_nil _ _ _ _), HG3, Lib.hid (World.grownBy.refl _ _), Nat.le_refl _⟩
          case round =>
            obtain ⟨k, v, hk, rfl, HO, HV, HG, HGB, hsz⟩ := hrel
            obtain ⟨wo, rfl⟩ : ∃ wo, wo = wr := ⟨_, rfl⟩
            have hkk : ∀ i, i < W.heap.size + 2 → wo.heap[i]? = w1.heap[i]? := fun i hi => HG.out.block i (by omega) (fun e => by injection e with e; omega)
            have HBW := Lib.hid (HB1.out.trans (gb_below (B := W.heap.size) HG.out (by omega) (by omega)))
            obtain ⟨a0, a1, a2⟩ := HA.out.same (hkk _ (by omega))
            have hsW := HBW.out.size
            by_cases hlt : k < r.m
            · have hk0 : (0 : Int) ≤ (k : Int) := by omega
              have hkn : (k : Int) < (r.m : Int) := by omega
              have ek : IntKind.i64.wrap ((k : Int) + 1) = (k : Int) + 1 := IntWalk.i64_in _ (by omega)
              obtain ⟨b, o, hA', hbl, d0, d1, d2, d3⟩ := (H0.out.later HBW.out).v k hlt
              subst hA'
              obtain ⟨x, hx⟩ : ∃ x, x = r.V k := ⟨_, rfl⟩
              rw [← hx] at d0 d1 d2 d3
              have HX := Lib.hid hx
              have hv1 := HV.out.lt
              clear hx hkk
              go_upto_region 15 with fail
              refine wp_world (fun w' => (w'.cell? ⟨wo.heap.size, 0, none⟩ = some (.int .i64 x.f) ∧ w'.cell? ⟨wo.heap.size, 1, none⟩ = some (.int .i64 x.t) ∧ w'.cell? ⟨wo.heap.size, 2, none⟩ = some (.int .i64 x.p) ∧ w'.cell? ⟨wo.heap.size, 3, none⟩ = some (.int .i64 x.e)) ∧ Below wo.heap.size wo w' ∧ wo.heap.size + 1 ≤ w'.heap.size) ⟨(by (repeat' refine And.intro ?_ ?_) <;> (repeat (first | with_reducible assumption | (simp; done) | (with_reducible first | refine Kd ?_ | refine Kn ?_ | refine Kb (by assumption) ?_) | ((with_reducible first | refine Kw ?_ ?_ | refine Fw ?_) <;> first | with_reducible rfl | (simp; done)) | (with_reducible first | refine Ka _ ?_ | refine Ks _ (by first | exact Nat.le_refl _ | omega | (simp; done) | (simp; omega)) ?_ | refine Fd ?_ | refine Fn ?_ | refine Fb (by assumption) (by first | exact Nat.le_refl _ | omega | (simp; done) | (simp; omega)) ?_ | refine Fa _ (by first | exact Nat.le_refl _ | omega | (simp; done) | (simp; omega)) ?_ | refine Fs _ ?_)))), (by repeat (first | (with_reducible first | exact Below.refl _ _ | assumption | refine Below.drew ?_) | ((with_reducible first | refine Lc ?_ ?_ _ | refine Ls ?_ ?_ _ | refine Lv (by assumption) ?_ ?_); · first | exact Nat.le_refl _ | omega | (dsimp only; omega) | (simp only [World.size_alloc, World.size_drew, World.heap_drewN]; omega) | (simp; omega)))), by simp⟩ ?_
              rintro wq ⟨hxq, hbq, hsq⟩
              have HXQ := Lib.hid hxq
              have HOQ := Lib.hid (HO.out.same (hbq.block _ (by omega)))
              have HVQ := Lib.hid (owns_later HV.out hbq)
              have HGQ := Lib.hid (gb_trans HG.out (gb_of_below _ hbq))
              have HGBQ := Lib.hid (gb_trans HGB.out (gb_of_below _ hbq))
              clear hxq hbq HO HV HG HGB a0 a1 a2 d0 d1 d2 d3
              obtain ⟨o0, o1, o2, f0, f1, f2⟩ := HOQ.out
              obtain ⟨e0, e1, e2, e3⟩ := HXQ.out
              have hv1 := HVQ.out.lt
              go_upto_region 16 with (at_builtin; refine wpList_append_lies _ rfl (.tmp 46) (.tmp 48) 32 rfl w3.heap.size 123 k0 (.agg #[.int .i64 0, .int .i64 0, .int .i64 0, .int .i64 0]) 4 32 rwgs_under ki kz0 kz1 kz2 rfl (by decide) v k (rowC wgC r.V k) rfl (HVQ.out.alloc _) ⟨wq.heap.size, 0, none⟩ 1 1 (wgC x) rfl rfl (new_cells (cs := wgC x)) (wgC_one x) (by omega) (by unfold maxLen; omega) (by omega) (by simp; omega) (wq.heap.size + 1) (by simp) ?_; intro g cap w6 hown6 hgr6 hat6 hlt6; have s6 : w6.heap[W.heap.size + 2]? = wq.heap[W.heap.size + 2]? := (hgr6.block _ (by simp; omega) (fun e => by have := (hv1 _ e.symm).1; omega)).trans (Below.heap_alloc _ _ _ (by omega)); have p0 := cell_same s6 o0; have p1 := cell_same s6 o1; have p2 := cell_same s6 o2; have q0 := fro_same s6 f0; have q1 := fro_same s6 f1; have q2 := fro_same s6 f2)
              clear s6 p0 p1 p2 q0 q1 q2 o0 o1 o2 f0 f1 f2 e0 e1 e2 e3
              have hold : ∀ i, i < w3.heap.size → w6.heap[i]? = wq.heap[i]? := fun i hi => (hgr6.block i (by simp; omega) (fun e => by have := (hv1 i e.symm).1; omega)).trans (Below.heap_alloc _ _ _ (by omega))
              have hz6 := hgr6.size
              simp only [World.size_alloc] at hz6
              have HO7 : Hid (V3 (w6.setCell ⟨W.heap.size + 2, 2, none⟩ (.slice (some ⟨g, 0, none⟩) (k + 1) cap)) (W.heap.size + 2) (.slice bA2 r.n bc2) (.slice dA2 r.d dc2) (.slice (some ⟨g, 0, none⟩) (k + 1) cap)) := Lib.hid ((HOQ.out.same (hold _ (by omega))).set2 _)
              have HV7 : Hid ((w6.setCell ⟨W.heap.size + 2, 2, none⟩ (.slice (some ⟨g, 0, none⟩) (k + 1) cap)).ownsRow w3.heap.size 123 4 (.slice (some ⟨g, 0, none⟩) (k + 1) cap) (k + 1) (rowC wgC r.V (k + 1))) := Lib.hid (by
                have e : rowC wgC r.V (k + 1) = rowC wgC r.V k ++ wgC x := by rw [rowC, HX.out]
                rw [e]
                exact owns_sm hown6 (fun g h1 h2 => set_heap _ (by dsimp only; omega)))
              have HG7 : Hid (w1.grownBy (w6.setCell ⟨W.heap.size + 2, 2, none⟩ (.slice (some ⟨g, 0, none⟩) (k + 1) cap)) (some (W.heap.size + 2))) := Lib.hid (gb_trans (gb_own (gb_new HGQ.out _) hgr6 (fun g hg => by have := (hv1 g hg).1; omega)) (gb_set _ _ _ _))
              have HGB7 : Hid (w3.grownBy (w6.setCell ⟨W.heap.size + 2, 2, none⟩ (.slice (some ⟨g, 0, none⟩) (k + 1) cap)) (some (W.heap.size + 2))) := Lib.hid (gb_trans (gb_own (gb_new HGBQ.out _) hgr6 (fun g hg => (hv1 g hg).1)) (gb_set _ _ _ _))
              clear hown6 hgr6 hat6 hlt6 hold
              go_wp2_with fail
              refine ⟨?_, ?measure⟩
              case measure => simp [intOf]; omega
              exact ⟨k + 1, _, by omega, by go_num, HO7, HV7, HG7, HGB7, by simp only [World.setCell, Array.size_modify]; omega⟩
            · obtain rfl : k = r.m := by omega
              have hge : ¬ (r.m : Int) < (r.m : Int) := by omega
              obtain ⟨vA2, vc2, rfl, hov, hvc⟩ := OwnWg.ofT HV.out
              have HOB4 := Lib.hid (HOB3.out.keep (fun i h1 h2 => HGB.out.block i h2 (fun e => by injection e with e; omega)))
              have HOD4 := Lib.hid (HOD.out.keep (fun i h1 h2 => HGB.out.block i h2 (fun e => by injection e with e; omega)))
              have HOV := Lib.hid hov
              have hqs := HQ.out.same (hkk _ (by omega))
              obtain ⟨q0, q1, q2, g0, g1, g2⟩ := hqs
              obtain ⟨o0, o1, o2, -, -, -⟩ := HO.out
              clear hov HV HG HGB hkk hge HO3 HG3 a0 a1 a2
              go_wp2_with fail
              refine name_post ?_
              intro w' hw
              have hk : ∀ i, i ≠ W.heap.size + 1 → w'.heap[i]? = wo.heap[i]? := fun i hi => by
                rw [hw]
                exact (set_heap _ (by exact hi)).trans ((set_heap _ (by exact hi)).trans (set_heap _ (by exact hi)))
              have hbf : Below W.heap.size W w' := by
                rw [hw]
                exact ((HBW.out.setCell (by dsimp only; omega) _).setCell (by dsimp only; omega) _).setCell (by dsimp only; omega) _
              have hres : w'.cell? ⟨W.heap.size + 1, 0, none⟩ = some (.slice bA2 r.n bc2) ∧ w'.cell? ⟨W.heap.size + 1, 1, none⟩ = some (.slice dA2 r.d dc2) ∧ w'.cell? ⟨W.heap.size + 1, 2, none⟩ = some (.slice vA2 r.m vc2) := by
                rw [hw]
                exact ⟨by simp [go_sem, q0], by simp [go_sem, q0, q1], by simp [go_sem, q0, q1, q2]⟩
              clear hw
              obtain ⟨s0, s1, s2⟩ := hres
              refine bodyPost_ret (v := rwV bA2 r.n bc2 dA2 r.d dc2 vA2 r.m vc2) (by simp [results, Tryz.results14, go_sem, s0, s1, s2]) rfl ⟨bA2, dA2, vA2, bc2, dc2, vc2, rfl, (HOB4.out.keep (fun i h1 h2 => hk i (by omega))).low (by omega), (HOD4.out.keep (fun i h1 h2 => hk i (by omega))).low (by omega), (HOV.out.keep (fun i h1 h2 => hk i (by omega))).low (by omega), ⟨hbc, hdc, hvc⟩, hbf⟩

def Rw.longB (r : Rw) : Bool := decide (8 < r.n) || decide (9 < r.d) || decide (12 < r.m)
set_option maxRecDepth 100000 in
set_option maxHeartbeats 1000000 in
theorem long_any (r : Rw) (bA dA vA : Option Addr) (bc dc vc : Nat) (W : World) :
    Calls Tryz.prog 11 #[rwV bA r.n bc dA r.d dc vA r.m vc] W fun e W' => e = .returned (.bool r.longB) ∧ Below W.heap.size W W' := by
  by_cases h1 : 8 < r.n
  · have g1 : (8 : Int) < (r.n : Int) := by omega
    have HR : Hid (r.longB = true) := Lib.hid (by unfold Rw.longB; simp [h1])
    clear h1
    go_enter Tryz.func11, Tryz.ntmps11
    go_wp2_with fail
    go_ret
    exact ⟨by rw [HR.out]; rfl, (by repeat (first | (with_reducible first | exact Below.refl _ _ | refine Below.drew ?_ | refine below_drewN ?_ _) | ((with_reducible first | refine Lc ?_ ?_ _ | refine Ls ?_ ?_ _ | refine Lv (by assumption) ?_ ?_); · first | exact Nat.le_refl _ | omega | (simp; done) | (simp; omega) | (simp at *; omega))))⟩
  · have g1 : ¬ (8 : Int) < (r.n : Int) := by omega
    by_cases h2 : 9 < r.d
    · have g2 : (9 : Int) < (r.d : Int) := by omega
      have HR : Hid (r.longB = true) := Lib.hid (by unfold Rw.longB; simp [h2])
      clear h1 h2
      go_enter Tryz.func11, Tryz.ntmps11
      go_wp2_with fail
      go_ret
      exact ⟨by rw [HR.out]; rfl, (by repeat (first | (with_reducible first | exact Below.refl _ _ | refine Below.drew ?_ | refine below_drewN ?_ _) | ((with_reducible first | refine Lc ?_ ?_ _ | refine Ls ?_ ?_ _ | refine Lv (by assumption) ?_ ?_); · first | exact Nat.le_refl _ | omega | (simp; done) | (simp; omega) | (simp at *; omega))))⟩
    · have g2 : ¬ (9 : Int) < (r.d : Int) := by omega
      by_cases h3 : 12 < r.m
      · have g3 : (12 : Int) < (r.m : Int) := by omega
        have HR : Hid (r.longB = true) := Lib.hid (by unfold Rw.longB; simp [h3])
        clear h1 h2 h3
        go_enter Tryz.func11, Tryz.ntmps11
        go_wp2_with fail
        go_ret
        exact ⟨by rw [HR.out]; rfl, (by repeat (first | (with_reducible first | exact Below.refl _ _ | refine Below.drew ?_ | refine below_drewN ?_ _) | ((with_reducible first | refine Lc ?_ ?_ _ | refine Ls ?_ ?_ _ | refine Lv (by assumption) ?_ ?_); · first | exact Nat.le_refl _ | omega | (simp; done) | (simp; omega) | (simp at *; omega))))⟩
      · have g3 : ¬ (12 : Int) < (r.m : Int) := by omega
        have HR : Hid (r.longB = false) := Lib.hid (by unfold Rw.longB; simp; omega)
        clear h1 h2 h3
        go_enter Tryz.func11, Tryz.ntmps11
        go_wp2_with fail
        go_ret
        exact ⟨by rw [HR.out]; rfl, (by repeat (first | (with_reducible first | exact Below.refl _ _ | refine Below.drew ?_ | refine below_drewN ?_ _) | ((with_reducible first | refine Lc ?_ ?_ _ | refine Ls ?_ ?_ _ | refine Lv (by assumption) ?_ ?_); · first | exact Nat.le_refl _ | omega | (simp; done) | (simp; omega) | (simp at *; omega))))⟩
end Go.Proofs.YtnnikeolgknfoaaGreat

set_option linter.unusedSimpArgs false
set_option linter.unusedVariables false
namespace Go.Proofs.YtnnikeolgknfoaaGreat
open Go.RowKit Go.Shelf

theorem spArr_under : Tryz.prog.underlying 117 = some (.array 3 49) := by kernel_rfl
@[go_sem ↓] theorem neqBn1 (z0 z1 z2 z3 z4 z5 z6 : Int) (w : World) : (binOp .neq 119 (.agg #[.int .i64 z0, .int .i64 z1, .int .i64 z2, .int .i64 z3, .int .i64 z4, .int .i64 z5, .int .i64 z6]) (.agg #[.int .i64 z0, .int .i64 z1, .int .i64 z2, .int .i64 z3, .int .i64 z4, .int .i64 z5, .int .i64 z6])).run Tryz.prog w = .ok (.bool false) w := by
  obtain ⟨i0, hi, hz0, hz1, hz2⟩ := info_parts infoSp
  have h1 : ∀ xs ys w, (Op.equalIn 9999 117 (.agg xs) (.agg ys)).run Tryz.prog w = (Op.eqItems 9998 49 (Tryz.prog.cellsOf 49) xs ys (List.range 3)).run Tryz.prog w := fun xs ys w => run_equalIn_array w 9998 xs ys spArr_under hi
  have h2 : Tryz.prog.cellsOf 49 = 2 := by kernel_rfl
  rw [h2] at h1
  simp [go_sem, h1, Op.eqItems, List.range, List.range.loop]

set_option maxRecDepth 100000 in
set_option maxHeartbeats 2000000 in
theorem alikeS_bn (A C : Option Addr) (n ca cc : Nat) (X : Nat → Bn) (W : World) (hA : BnRow W W.heap.size A n X) (hC : BnRow W W.heap.size C n X) (hn : n ≤ 1000) :
    Calls Tryz.prog 77 #[.slice A n ca, .slice C n cc] W fun e W' => e = .returned (.bool true) ∧ Below W.heap.size W W' := by
  have HA := Lib.hid hA
  have HC := Lib.hid hC
  clear hA hC
  have hb : ((n : Int) != (n : Int)) = false := by simp
  go_enter Tryz.func77, Tryz.ntmps77
  go_wp2_with fail
  go_loopw [14] (fun i wr => ∃ k : Nat, k ≤ n ∧ i = .int .i64 k ∧ Hid (Below W.heap.size W wr)) (fun i _ => n - (intOf i).toNat)
  case atStart => exact ⟨0, Nat.zero_le _, rfl, Lib.hid (Below.refl _ _)⟩
  case round =>
    obtain ⟨k, hk, rfl, hbw⟩ := hrel
    by_cases hlt : k < n
    · obtain ⟨b, o, rfl, hb1, c0, c1, c2, c3, c4, c5, c6⟩ := HA.out k hlt
      obtain ⟨b', o', rfl, hb2, d0, d1, d2, d3, d4, d5, d6⟩ := HC.out k hlt
      have hk0 : (0 : Int) ≤ (k : Int) := by omega
      have hkn : (k : Int) < (n : Int) := by omega
      obtain ⟨z0, hz0⟩ : ∃ z, z = (X k).lo 0 := ⟨_, rfl⟩
      rw [← hz0] at c0 d0
      obtain ⟨z1, hz1⟩ : ∃ z, z = (X k).hi 0 := ⟨_, rfl⟩
      rw [← hz1] at c1 d1
      obtain ⟨z2, hz2⟩ : ∃ z, z = (X k).lo 1 := ⟨_, rfl⟩
      rw [← hz2] at c2 d2
      obtain ⟨z3, hz3⟩ : ∃ z, z = (X k).hi 1 := ⟨_, rfl⟩
      rw [← hz3] at c3 d3
      obtain ⟨z4, hz4⟩ : ∃ z, z = (X k).lo 2 := ⟨_, rfl⟩
      rw [← hz4] at c4 d4
      obtain ⟨z5, hz5⟩ : ∃ z, z = (X k).hi 2 := ⟨_, rfl⟩
      rw [← hz5] at c5 d5
      obtain ⟨z6, hz6⟩ : ∃ z, z = (X k).s := ⟨_, rfl⟩
      rw [← hz6] at c6 d6
      have c0 := cell_same (hbw.out.block _ hb1) c0
      have c1 := cell_same (hbw.out.block _ hb1) c1
      have c2 := cell_same (hbw.out.block _ hb1) c2
      have c3 := cell_same (hbw.out.block _ hb1) c3
      have c4 := cell_same (hbw.out.block _ hb1) c4
      have c5 := cell_same (hbw.out.block _ hb1) c5
      have c6 := cell_same (hbw.out.block _ hb1) c6
      have d0 := cell_same (hbw.out.block _ hb2) d0
      have d1 := cell_same (hbw.out.block _ hb2) d1
      have d2 := cell_same (hbw.out.block _ hb2) d2
      have d3 := cell_same (hbw.out.block _ hb2) d3
      have d4 := cell_same (hbw.out.block _ hb2) d4
      have d5 := cell_same (hbw.out.block _ hb2) d5
      have d6 := cell_same (hbw.out.block _ hb2) d6
      clear hz0 hz1 hz2 hz3 hz4 hz5 hz6
      have hsr := hbw.out.size
      go_upto_region 6 with fail
      refine wp_world (fun W5 => (W5.cell? ⟨wr.heap.size, 0, none⟩ = some (.int .i64 z0) ∧ W5.cell? ⟨wr.heap.size, 1, none⟩ = some (.int .i64 z1) ∧ W5.cell? ⟨wr.heap.size, 2, none⟩ = some (.int .i64 z2) ∧ W5.cell? ⟨wr.heap.size, 3, none⟩ = some (.int .i64 z3) ∧ W5.cell? ⟨wr.heap.size, 4, none⟩ = some (.int .i64 z4) ∧ W5.cell? ⟨wr.heap.size, 5, none⟩ = some (.int .i64 z5) ∧ W5.cell? ⟨wr.heap.size, 6, none⟩ = some (.int .i64 z6)) ∧ Below wr.heap.size wr W5) ⟨(by (repeat' refine And.intro ?_ ?_) <;> (repeat (first | with_reducible assumption | (simp; done) | (with_reducible first | refine Kd ?_ | refine Kn ?_ | refine Kb (by assumption) ?_) | ((with_reducible first | refine Kw ?_ ?_ | refine Fw ?_) <;> first | with_reducible rfl | (simp; done)) | (with_reducible first | refine Ka _ ?_ | refine Ks _ (by first | exact Nat.le_refl _ | omega | (simp; done) | (simp; omega)) ?_ | refine Fd ?_ | refine Fn ?_ | refine Fb (by assumption) (by first | exact Nat.le_refl _ | omega | (simp; done) | (simp; omega)) ?_ | refine Fa _ (by first | exact Nat.le_refl _ | omega | (simp; done) | (simp; omega)) ?_ | refine Fs _ ?_)))), (by repeat (first | (with_reducible first | exact Below.refl _ _ | refine Below.drew ?_ | refine below_drewN ?_ _) | ((with_reducible first | refine Lc ?_ ?_ _ | refine Ls ?_ ?_ _ | refine Lv (by assumption) ?_ ?_); · first | exact Nat.le_refl _ | omega | (simp; done) | (simp; omega) | (simp at *; omega))))⟩ ?_
      rintro W5 ⟨⟨p0, p1, p2, p3, p4, p5, p6⟩, hb5⟩
      have x0 := cell_regrown p0
      have y0 := cell_regrown (Kb hb5 d0)
      have e0 : (z0 == z0) = true := by simp
      have x1 := cell_regrown p1
      have y1 := cell_regrown (Kb hb5 d1)
      have e1 : (z1 == z1) = true := by simp
      have x2 := cell_regrown p2
      have y2 := cell_regrown (Kb hb5 d2)
      have e2 : (z2 == z2) = true := by simp
      have x3 := cell_regrown p3
      have y3 := cell_regrown (Kb hb5 d3)
      have e3 : (z3 == z3) = true := by simp
      have x4 := cell_regrown p4
      have y4 := cell_regrown (Kb hb5 d4)
      have e4 : (z4 == z4) = true := by simp
      have x5 := cell_regrown p5
      have y5 := cell_regrown (Kb hb5 d5)
      have e5 : (z5 == z5) = true := by simp
      have x6 := cell_regrown p6
      have y6 := cell_regrown (Kb hb5 d6)
      have e6 : (z6 == z6) = true := by simp
      have HB5 := Lib.hid (hbw.out.trans (hb5.mono hsr))
      have hs5 := hb5.size
      clear c0 c1 c2 c3 c4 c5 c6 d0 d1 d2 d3 d4 d5 d6 p0 p1 p2 p3 p4 p5 p6 hb5
      refine region_qbw (by kernel_rfl) (by kernel_rfl) ?_
      repeat (first | go_big_quiet_step (fail) | quiet_step (fail))
      refine wpQuiet_nil ?_; intro wq hbq
      have HB6 := Lib.hid (HB5.out.trans (hbq.mono (by omega)))
      clear x0 y0 x1 y1 x2 y2 x3 y3 x4 y4 x5 y5 x6 y6 hbq
      go_wp2_with fail
      go_roundw
      case rel => exact ⟨k + 1, by omega, by go_num, HB6⟩
      case measure => simp [intOf]; omega
    · obtain rfl : k = n := by omega
      have hge : ¬ (k : Int) < (k : Int) := by omega
      go_wp2_with fail
      go_ret
      exact ⟨rfl, hbw.out⟩

set_option maxRecDepth 100000 in
set_option maxHeartbeats 2000000 in
theorem alikeS_wg (A C : Option Addr) (n ca cc : Nat) (X : Nat → Wg) (W : World) (hA : WgRow W W.heap.size A n X) (hC : WgRow W W.heap.size C n X) (hn : n ≤ 1000) :
    Calls Tryz.prog 79 #[.slice A n ca, .slice C n cc] W fun e W' => e = .returned (.bool true) ∧ Below W.heap.size W W' := by
  have HA := Lib.hid hA
  have HC := Lib.hid hC
  clear hA hC
  have hb : ((n : Int) != (n : Int)) = false := by simp
  go_enter Tryz.func79, Tryz.ntmps79
  go_wp2_with fail
  go_loopw [14] (fun i wr => ∃ k : Nat, k ≤ n ∧ i = .int .i64 k ∧ Hid (Below W.heap.size W wr)) (fun i _ => n - (intOf i).toNat)
  case atStart => exact ⟨0, Nat.zero_le _, rfl, Lib.hid (Below.refl _ _)⟩
  case round =>
    obtain ⟨k, hk, rfl, hbw⟩ := hrel
    by_cases hlt : k < n
    · obtain ⟨b, o, rfl, hb1, c0, c1, c2, c3⟩ := HA.out k hlt
      obtain ⟨b', o', rfl, hb2, d0, d1, d2, d3⟩ := HC.out k hlt
      have hk0 : (0 : Int) ≤ (k : Int) := by omega
      have hkn : (k : Int) < (n : Int) := by omega
      obtain ⟨z0, hz0⟩ : ∃ z, z = (X k).f := ⟨_, rfl⟩
      rw [← hz0] at c0 d0
      obtain ⟨z1, hz1⟩ : ∃ z, z = (X k).t := ⟨_, rfl⟩
      rw [← hz1] at c1 d1
      obtain ⟨z2, hz2⟩ : ∃ z, z = (X k).p := ⟨_, rfl⟩
      rw [← hz2] at c2 d2
      obtain ⟨z3, hz3⟩ : ∃ z, z = (X k).e := ⟨_, rfl⟩
      rw [← hz3] at c3 d3
      have c0 := cell_same (hbw.out.block _ hb1) c0
      have c1 := cell_same (hbw.out.block _ hb1) c1
      have c2 := cell_same (hbw.out.block _ hb1) c2
      have c3 := cell_same (hbw.out.block _ hb1) c3
      have d0 := cell_same (hbw.out.block _ hb2) d0
      have d1 := cell_same (hbw.out.block _ hb2) d1
      have d2 := cell_same (hbw.out.block _ hb2) d2
      have d3 := cell_same (hbw.out.block _ hb2) d3
      clear hz0 hz1 hz2 hz3
      have hsr := hbw.out.size
      go_upto_region 6 with fail
      refine wp_world (fun W5 => (W5.cell? ⟨wr.heap.size, 0, none⟩ = some (.int .i64 z0) ∧ W5.cell? ⟨wr.heap.size, 1, none⟩ = some (.int .i64 z1) ∧ W5.cell? ⟨wr.heap.size, 2, none⟩ = some (.int .i64 z2) ∧ W5.cell? ⟨wr.heap.size, 3, none⟩ = some (.int .i64 z3)) ∧ Below wr.heap.size wr W5) ⟨(by (repeat' refine And.intro ?_ ?_) <;> (repeat (first | with_reducible assumption | (simp; done) | (with_reducible first | refine Kd ?_ | refine Kn ?_ | refine Kb (by assumption) ?_) | ((with_reducible first | refine Kw ?_ ?_ | refine Fw ?_) <;> first | with_reducible rfl | (simp; done)) | (with_reducible first | refine Ka _ ?_ | refine Ks _ (by first | exact Nat.le_refl _ | omega | (simp; done) | (simp; omega)) ?_ | refine Fd ?_ | refine Fn ?_ | refine Fb (by assumption) (by first | exact Nat.le_refl _ | omega | (simp; done) | (simp; omega)) ?_ | refine Fa _ (by first | exact Nat.le_refl _ | omega | (simp; done) | (simp; omega)) ?_ | refine Fs _ ?_)))), (by repeat (first | (with_reducible first | exact Below.refl _ _ | refine Below.drew ?_ | refine below_drewN ?_ _) | ((with_reducible first | refine Lc ?_ ?_ _ | refine Ls ?_ ?_ _ | refine Lv (by assumption) ?_ ?_); · first | exact Nat.le_refl _ | omega | (simp; done) | (simp; omega) | (simp at *; omega))))⟩ ?_
      rintro W5 ⟨⟨p0, p1, p2, p3⟩, hb5⟩
      have x0 := cell_regrown p0
      have y0 := cell_regrown (Kb hb5 d0)
      have e0 : (z0 == z0) = true := by simp
      have x1 := cell_regrown p1
      have y1 := cell_regrown (Kb hb5 d1)
      have e1 : (z1 == z1) = true := by simp
      have x2 := cell_regrown p2
      have y2 := cell_regrown (Kb hb5 d2)
      have e2 : (z2 == z2) = true := by simp
      have x3 := cell_regrown p3
      have y3 := cell_regrown (Kb hb5 d3)
      have e3 : (z3 == z3) = true := by simp
      have HB5 := Lib.hid (hbw.out.trans (hb5.mono hsr))
      have hs5 := hb5.size
      clear c0 c1 c2 c3 d0 d1 d2 d3 p0 p1 p2 p3 hb5
      refine region_qbw (by kernel_rfl) (by kernel_rfl) ?_
      repeat (first | go_big_quiet_step (fail) | quiet_step (fail))
      refine wpQuiet_nil ?_; intro wq hbq
      have HB6 := Lib.hid (HB5.out.trans (hbq.mono (by omega)))
      clear x0 y0 x1 y1 x2 y2 x3 y3 hbq
      go_wp2_with fail
      go_roundw
      case rel => exact ⟨k + 1, by omega, by go_num, HB6⟩
      case measure => simp [intOf]; omega
    · obtain rfl : k = n := by omega
      have hge : ¬ (k : Int) < (k : Int) := by omega
      go_wp2_with fail
      go_ret
      exact ⟨rfl, hbw.out⟩

theorem alikeS_kd (A C : Option Addr) (n ca cc : Nat) (X : Nat → Int) (W : World) (hA : IntRow W W.heap.size A n X) (hC : IntRow W W.heap.size C n X) (hn : n ≤ 1000) :
    Calls Tryz.prog 78 #[.slice A n ca, .slice C n cc] W fun e W' => e = .returned (.bool true) ∧ Below W.heap.size W W' := by
  refine (alike_kd A C n n ca cc X X W hA hC hn).mono ?_
  rintro e w ⟨rfl, hb⟩
  have h : allN (fun k => decide (X k = X k)) n = true := allN_iff.2 (fun k _ => by simp)
  exact ⟨by rw [h]; simp, hb⟩

set_option maxRecDepth 100000 in
set_option maxHeartbeats 2000000 in
theorem same_any (r : Rw) (bA dA vA bA' dA' vA' : Option Addr) (bc dc vc bc' dc' vc' : Nat) (W : World) (h1 : RwRow W W.heap.size r bA bc dA dc vA vc) (h2 : RwRow W W.heap.size r bA' bc' dA' dc' vA' vc') :
    Calls Tryz.prog 20 #[rwV bA r.n bc dA r.d dc vA r.m vc, rwV bA' r.n bc' dA' r.d dc' vA' r.m vc'] W fun e W' => e = .returned (.bool true) ∧ Below W.heap.size W W' := by
  have H1 := Lib.hid h1
  have H2 := Lib.hid h2
  have hn := h1.n1
  have hd := h1.d1
  have hm := h1.m1
  clear h1 h2
  go_enter Tryz.func20, Tryz.ntmps20
  go_upto_region 1 with fail
  refine wp_world (fun W1 => RwAt W1 W.heap.size r bA bc dA dc vA vc ∧ RwAt W1 (W.heap.size + 1) r bA' bc' dA' dc' vA' vc' ∧ Below W.heap.size W W1) ⟨⟨(by (repeat' refine And.intro ?_ ?_) <;> (repeat (first | with_reducible assumption | (simp; done) | (with_reducible first | refine Kd ?_ | refine Kn ?_ | refine Kb (by assumption) ?_) | ((with_reducible first | refine Kw ?_ ?_ | refine Fw ?_) <;> first | with_reducible rfl | (simp; done)) | (with_reducible first | refine Ka _ ?_ | refine Ks _ (by first | exact Nat.le_refl _ | omega | (simp; done) | (simp; omega)) ?_ | refine Fd ?_ | refine Fn ?_ | refine Fb (by assumption) (by first | exact Nat.le_refl _ | omega | (simp; done) | (simp; omega)) ?_ | refine Fa _ (by first | exact Nat.le_refl _ | omega | (simp; done) | (simp; omega)) ?_ | refine Fs _ ?_)))), (by (repeat' refine And.intro ?_ ?_) <;> (repeat (first | with_reducible assumption | (simp; done) | (with_reducible first | refine Kd ?_ | refine Kn ?_ | refine Kb (by assumption) ?_) | ((with_reducible first | refine Kw ?_ ?_ | refine Fw ?_) <;> first | with_reducible rfl | (simp; done)) | (with_reducible first | refine Ka _ ?_ | refine Ks _ (by first | exact Nat.le_refl _ | omega | (simp; done) | (simp; omega)) ?_ | refine Fd ?_ | refine Fn ?_ | refine Fb (by assumption) (by first | exact Nat.le_refl _ | omega | (simp; done) | (simp; omega)) ?_ | refine Fa _ (by first | exact Nat.le_refl _ | omega | (simp; done) | (simp; omega)) ?_ | refine Fs _ ?_)))), (by (repeat' refine And.intro ?_ ?_) <;> (repeat (first | with_reducible assumption | (simp; done) | (with_reducible first | refine Kd ?_ | refine Kn ?_ | refine Kb (by assumption) ?_) | ((with_reducible first | refine Kw ?_ ?_ | refine Fw ?_) <;> first | with_reducible rfl | (simp; done)) | (with_reducible first | refine Ka _ ?_ | refine Ks _ (by first | exact Nat.le_refl _ | omega | (simp; done) | (simp; omega)) ?_ | refine Fd ?_ | refine Fn ?_ | refine Fb (by assumption) (by first | exact Nat.le_refl _ | omega | (simp; done) | (simp; omega)) ?_ | refine Fa _ (by first | exact Nat.le_refl _ | omega | (simp; done) | (simp; omega)) ?_ | refine Fs _ ?_))))⟩, ⟨(by (repeat' refine And.intro ?_ ?_) <;> (repeat (first | with_reducible assumption | (simp; done) | (with_reducible first | refine Kd ?_ | refine Kn ?_ | refine Kb (by assumption) ?_) | ((with_reducible first | refine Kw ?_ ?_ | refine Fw ?_) <;> first | with_reducible rfl | (simp; done)) | (with_reducible first | refine Ka _ ?_ | refine Ks _ (by first | exact Nat.le_refl _ | omega | (simp; done) | (simp; omega)) ?_ | refine Fd ?_ | refine Fn ?_ | refine Fb (by assumption) (by first | exact Nat.le_refl _ | omega | (simp; done) | (simp; omega)) ?_ | refine Fa _ (by first | exact Nat.le_refl _ | omega | (simp; done) | (simp; omega)) ?_ | refine Fs _ ?_)))), (by (repeat' refine And.intro ?_ ?_) <;> (repeat (first | with_reducible assumption | (simp; done) | (with_reducible first | refine Kd ?_ | refine Kn ?_ | refine Kb (by assumption) ?_) | ((with_reducible first | refine Kw ?_ ?_ | refine Fw ?_) <;> first | with_reducible rfl | (simp; done)) | (with_reducible first | refine Ka _ ?_ | refine Ks _ (by first | exact Nat.le_refl _ | omega | (simp; done) | (simp; omega)) ?_ | refine Fd ?_ | refine Fn ?_ | refine Fb (by assumption) (by first | exact Nat.le_refl _ | omega | (simp; done) | (simp; omega)) ?_ | refine Fa _ (by first | exact Nat.le_refl _ | omega | (simp; done) | (simp; omega)) ?_ | refine Fs _ ?_)))), (by (repeat' refine And.intro ?_ ?_) <;> (repeat (first | with_reducible assumption | (simp; done) | (with_reducible first | refine Kd ?_ | refine Kn ?_ | refine Kb (by assumption) ?_) | ((with_reducible first | refine Kw ?_ ?_ | refine Fw ?_) <;> first | with_reducible rfl | (simp; done)) | (with_reducible first | refine Ka _ ?_ | refine Ks _ (by first | exact Nat.le_refl _ | omega | (simp; done) | (simp; omega)) ?_ | refine Fd ?_ | refine Fn ?_ | refine Fb (by assumption) (by first | exact Nat.le_refl _ | omega | (simp; done) | (simp; omega)) ?_ | refine Fa _ (by first | exact Nat.le_refl _ | omega | (simp; done) | (simp; omega)) ?_ | refine Fs _ ?_))))⟩, (by repeat (first | (with_reducible first | exact Below.refl _ _ | assumption | refine Below.drew ?_) | ((with_reducible first | refine Lc ?_ ?_ _ | refine Ls ?_ ?_ _ | refine Lv (by assumption) ?_ ?_); · first | exact Nat.le_refl _ | omega | (dsimp only; omega) | (simp only [World.size_alloc, World.size_drew, World.heap_drewN]; omega) | (simp; omega))))⟩ ?_
  rintro w1 ⟨ha1, ha2, hb1⟩
  have R1 := Lib.hid (H1.out.onW hb1)
  have R2 := Lib.hid (H2.out.onW hb1)
  have A1 := Lib.hid ha1
  have A2 := Lib.hid ha2
  have HB1 := Lib.hid hb1
  obtain ⟨a0, a1, a2⟩ := ha1
  obtain ⟨b0, b1, b2⟩ := ha2
  clear hb1 H1 H2
  go_wp2_with fail
  refine (alikeS_bn bA bA' r.n bc bc' r.B _ R1.out.b R2.out.b hn).mono ?_
  rintro e w2 ⟨rfl, hb2⟩
  have R12 := Lib.hid (R1.out.onW hb2)
  have R22 := Lib.hid (R2.out.onW hb2)
  have HB2 := Lib.hid (HB1.out.trans (hb2.mono HB1.out.size))
  obtain ⟨c0, c1, c2⟩ := A1.out.later hb2
  obtain ⟨d0, d1, d2⟩ := A2.out.later hb2
  have A12 := Lib.hid (A1.out.later hb2)
  have A22 := Lib.hid (A2.out.later hb2)
  clear hb2 a0 a1 a2 b0 b1 b2 A1 A2 R1 R2 HB1
  go_wp2_with fail
  refine (alikeS_kd dA dA' r.d dc dc' r.D _ R12.out.d R22.out.d hd).mono ?_
  rintro e w3 ⟨rfl, hb3⟩
  have R13 := Lib.hid (R12.out.onW hb3)
  have R23 := Lib.hid (R22.out.onW hb3)
  have HB3 := Lib.hid (HB2.out.trans (hb3.mono HB2.out.size))
  obtain ⟨a0, a1, a2⟩ := A12.out.later hb3
  obtain ⟨b0, b1, b2⟩ := A22.out.later hb3
  clear hb3 c0 c1 c2 d0 d1 d2 A12 A22 R12 R22 HB2
  go_wp2_with fail
  refine (alikeS_wg vA vA' r.m vc vc' r.V _ R13.out.v R23.out.v hm).mono ?_
  rintro e w4 ⟨rfl, hb4⟩
  have HB4 := Lib.hid (HB3.out.trans (hb4.mono HB3.out.size))
  clear hb4 a0 a1 a2 b0 b1 b2 R13 R23 HB3
  go_wp2_with fail
  go_ret
  exact ⟨rfl, HB4.out⟩
end Go.Proofs.YtnnikeolgknfoaaGreat
