/- All facts of a row: the iterator. -/
import Derived.Test.YtnnikeolgknfoaaGreatBc
set_option linter.unusedSimpArgs false
set_option linter.unusedVariables false
namespace Go.Proofs.YtnnikeolgknfoaaGreat
open Go.RowKit Go.Shelf

def fbL (m : Bool) (k : Nat) : List Fc := (List.range k).map (fun (i : Nat) => (⟨false, (i : Int), m⟩ : Fc))
def fwL (m : Bool) (k : Nat) : List Fc := (List.range k).map (fun (i : Nat) => (⟨true, (i : Int), m⟩ : Fc))
def fBase (r : Rw) : Nat → List Fc
  | 0 => []
  | 1 => factsM r true
  | _ => r.facts
theorem fbL_succ (m : Bool) (k : Nat) : fbL m (k + 1) = fbL m k ++ [⟨false, (k : Int), m⟩] := by simp [fbL, List.range_succ]
theorem fwL_succ (m : Bool) (k : Nat) : fwL m (k + 1) = fwL m k ++ [⟨true, (k : Int), m⟩] := by simp [fwL, List.range_succ]
theorem fBase_succ (r : Rw) {i : Nat} (hi : i < 2) : fBase r (i + 1) = fBase r i ++ (fbL (decide (i = 0)) r.n ++ fwL (decide (i = 0)) r.m) := by
  have h : i = 0 ∨ i = 1 := by omega
  rcases h with rfl | rfl
  · rfl
  · rfl
theorem fBase_pre (r : Rw) {i : Nat} (hi : i ≤ 2) : fBase r i <+: r.facts := by
  have h : i = 0 ∨ i = 1 ∨ i = 2 := by omega
  rcases h with rfl | rfl | rfl
  · exact List.nil_prefix
  · exact List.prefix_append _ _
  · exact List.prefix_refl _
theorem fbL_pre (m : Bool) {j k : Nat} (h : j ≤ k) : fbL m j <+: fbL m k := by
  obtain ⟨d, rfl⟩ : ∃ d, k = j + d := ⟨k - j, by omega⟩
  clear h
  induction d with
  | zero => exact List.prefix_refl _
  | succ d ih => exact ih.trans (by rw [← Nat.add_assoc, fbL_succ]; exact List.prefix_append _ _)
theorem fwL_pre (m : Bool) {j k : Nat} (h : j ≤ k) : fwL m j <+: fwL m k := by
  obtain ⟨d, rfl⟩ : ∃ d, k = j + d := ⟨k - j, by omega⟩
  clear h
  induction d with
  | zero => exact List.prefix_refl _
  | succ d ih => exact ih.trans (by rw [← Nat.add_assoc, fwL_succ]; exact List.prefix_append _ _)
theorem fb_next (r : Rw) {i k : Nat} (hi : i < 2) (hk : k < r.n) : fBase r i ++ fbL (decide (i = 0)) k ++ [⟨false, (k : Int), decide (i = 0)⟩] <+: r.facts := by
  rw [List.append_assoc, ← fbL_succ]
  refine List.IsPrefix.trans ?_ (fBase_pre r (show i + 1 ≤ 2 by omega))
  rw [fBase_succ r hi]
  exact (List.prefix_append_right_inj _).2 ((fbL_pre _ (show k + 1 ≤ r.n by omega)).trans (List.prefix_append _ _))
theorem fw_next (r : Rw) {i k : Nat} (hi : i < 2) (hk : k < r.m) : fBase r i ++ fbL (decide (i = 0)) r.n ++ fwL (decide (i = 0)) k ++ [⟨true, (k : Int), decide (i = 0)⟩] <+: r.facts := by
  rw [List.append_assoc, ← fwL_succ]
  refine List.IsPrefix.trans ?_ (fBase_pre r (show i + 1 ≤ 2 by omega))
  rw [fBase_succ r hi, List.append_assoc]
  exact (List.prefix_append_right_inj _).2 ((List.prefix_append_right_inj _).2 (fwL_pre _ (show k + 1 ≤ r.m by omega)))
theorem iB0 (a b : Value) (w : World) : (Instr.index 203 (.agg #[a, b]) (.int .i64 0)).run Tryz.prog w = .ok a w := by kernel_rfl
theorem iB1 (a b : Value) (w : World) : (Instr.index 203 (.agg #[a, b]) (.int .i64 1)).run Tryz.prog w = .ok b w := by kernel_rfl
theorem iB (i : Nat) (hi : i < 2) (w : World) : (Instr.index 203 (.agg #[.bool true, .bool false]) (.int .i64 (i : Int))).run Tryz.prog w = .ok (.bool (decide (i = 0))) w := by
  have h : i = 0 ∨ i = 1 := by omega
  rcases h with rfl | rfl
  · exact iB0 _ _ w
  · exact iB1 _ _ w
/-- what the iterator reads -/
def FcsAt (w : World) (xb db : Nat) (r : Rw) (bA : Option Addr) (bc : Nat) (dA : Option Addr) (dc : Nat) (vA : Option Addr) (vc : Nat) : Prop := w.cell? ⟨xb, 0, none⟩ = some (.pointer (some ⟨db, 0, none⟩)) ∧ RwAt w db r bA bc dA dc vA vc

set_option maxRecDepth 100000 in
set_option maxHeartbeats 4000000 in
theorem facts_seq (r : Rw) (hn : r.n ≤ 1000) (hm : r.m ≤ 1000) (xb db : Nat) (bA dA vA : Option Addr) (bc dc vc : Nat) : SeqL Tryz.prog 152 #[.pointer (some ⟨xb, 0, none⟩)] (fun x => #[fcV x]) (fun w => FcsAt w xb db r bA bc dA dc vA vc) r.facts := by
  intro l J Jx W hJ hJx hKl hY h0
  have HJ := Lib.hid hJ
  have HKl := Lib.hid hKl
  have HY := Lib.hid hY
  have H0 := Lib.hid h0
  clear hJ hJx hKl hY h0
  refine callsIn_of_wp Tryz.func152 rfl trivial ?_ rfl
  simp only [Tryz.ntmps152, List.size_toArray, List.length_cons, List.length_nil, Nat.reduceAdd, Nat.reduceSub, Array.replicate_succ, Array.replicate_zero, List.push_toArray, List.append_toArray, List.nil_append, List.cons_append]
  gi_wp2_with fail
  gi_loopw [8] (fun i wr => ∃ k : Nat, k ≤ 2 ∧ i = .int .i64 k ∧ Hid (J (fBase r k) wr)) (fun i _ => 2 - (intOf i).toNat)
  case atStart => exact ⟨0, by omega, rfl, H0⟩
  case round =>
    obtain ⟨i, hi, rfl, Hj⟩ := hrel
    by_cases hi2 : i < 2
    · have hii : (i : Int) < 2 := by omega
      have ei : IntKind.i64.wrap ((i : Int) + 1) = (i : Int) + 1 := IntWalk.i64_in _ (by omega)
      have hix := iB i hi2
      have hk := HKl.out _ _ Hj.out
      obtain ⟨k0, ⟨k1, k2, k3⟩⟩ := hk
      obtain ⟨wo, rfl⟩ : ∃ wo, wo = wr := ⟨_, rfl⟩
      gi_wp2_with fail
      clear k0 k1 k2 k3
      gi_loopw [17] (fun v wr => ∃ k : Nat, k ≤ r.n ∧ v = .int .i64 k ∧ Hid (J (fBase r i ++ fbL (decide (i = 0)) k) wr)) (fun v _ => r.n - (intOf v).toNat)
      case atStart => exact ⟨0, Nat.zero_le _, rfl, by rw [show fbL (decide (i = 0)) 0 = [] from rfl, List.append_nil]; exact Hj⟩
      case round =>
        obtain ⟨k, hk, rfl, Hk⟩ := hrel
        by_cases hlt : k < r.n
        · have hkn : (k : Int) < (r.n : Int) := by omega
          have ek : IntKind.i64.wrap ((k : Int) + 1) = (k : Int) + 1 := IntWalk.i64_in _ (by omega)
          obtain ⟨fn, tmps, assign, body, hy, hR⟩ := HY.out (fBase r i ++ fbL (decide (i = 0)) k) ⟨false, (k : Int), decide (i = 0)⟩ wr Hk.out (fb_next r hi2 hlt)
          have HR := Lib.hid hR
          clear hR
          gi_wp2_with fail
          refine ⟨rfl, HR.out.mono ?_⟩
          rintro e W' (⟨rfl, hJ', hnf⟩ | ⟨rfl, hx⟩)
          · have HJ' := Lib.hid hJ'
            clear hJ' hnf hy HR
            gi_wp2_with fail
            go_roundw
            case rel => exact ⟨k + 1, by omega, by go_num, by rw [fbL_succ, ← List.append_assoc]; exact HJ'⟩
            case measure => simp [intOf]; omega
          · have HX := Lib.hid (show ∃ pre, pre <+: r.facts ∧ Jx pre W' from ⟨_, fb_next r hi2 hlt, hx⟩)
            clear hx hy HR
            gi_wp2_with fail
            exact bodyPost_ret (v := .tuple #[]) (by simp [results, Tryz.results152, go_sem]) rfl ⟨⟨_, rfl⟩, .inr HX.out⟩
        · obtain rfl : k = r.n := by omega
          have hge : ¬ (r.n : Int) < (r.n : Int) := by omega
          have hk := HKl.out _ _ Hk.out
          obtain ⟨k0, ⟨k1, k2, k3⟩⟩ := hk
          obtain ⟨wy, rfl⟩ : ∃ wy, wy = wr := ⟨_, rfl⟩
          gi_wp2_with fail
          clear k0 k1 k2 k3
          gi_loopw [33] (fun v wr => ∃ k : Nat, k ≤ r.m ∧ v = .int .i64 k ∧ Hid (J (fBase r i ++ fbL (decide (i = 0)) r.n ++ fwL (decide (i = 0)) k) wr)) (fun v _ => r.m - (intOf v).toNat)
          case atStart => exact ⟨0, Nat.zero_le _, rfl, by rw [show fwL (decide (i = 0)) 0 = [] from rfl, List.append_nil]; exact Hk⟩
          case round =>
            obtain ⟨k, hk, rfl, Hk⟩ := hrel
            by_cases hlt : k < r.m
            · have hkn : (k : Int) < (r.m : Int) := by omega
              have ek : IntKind.i64.wrap ((k : Int) + 1) = (k : Int) + 1 := IntWalk.i64_in _ (by omega)
              obtain ⟨fn, tmps, assign, body, hy, hR⟩ := HY.out (fBase r i ++ fbL (decide (i = 0)) r.n ++ fwL (decide (i = 0)) k) ⟨true, (k : Int), decide (i = 0)⟩ wr Hk.out (fw_next r hi2 hlt)
              have HR := Lib.hid hR
              clear hR
              gi_wp2_with fail
              refine ⟨rfl, HR.out.mono ?_⟩
              rintro e W' (⟨rfl, hJ', hnf⟩ | ⟨rfl, hx⟩)
              · have HJ' := Lib.hid hJ'
                clear hJ' hnf hy HR
                gi_wp2_with fail
                go_roundw
                case rel => exact ⟨k + 1, by omega, by go_num, by rw [fwL_succ, ← List.append_assoc]; exact HJ'⟩
                case measure => simp [intOf]; omega
              · have HX := Lib.hid (show ∃ pre, pre <+: r.facts ∧ Jx pre W' from ⟨_, fw_next r hi2 hlt, hx⟩)
                clear hx hy HR
                gi_wp2_with fail
                exact bodyPost_ret (v := .tuple #[]) (by simp [results, Tryz.results152, go_sem]) rfl ⟨⟨_, rfl⟩, .inr HX.out⟩
            · obtain rfl : k = r.m := by omega
              have hge2 : ¬ (r.m : Int) < (r.m : Int) := by omega
              gi_wp2_with fail
              go_roundw
              case rel => exact ⟨i + 1, by omega, by go_num, by rw [fBase_succ r hi2, ← List.append_assoc]; exact Hk⟩
              case measure => simp [intOf]; omega
    · obtain rfl : i = 2 := by omega
      gi_wp2_with fail
      go_end0
      exact ⟨⟨_, rfl⟩, .inl Hj.out⟩

set_option maxRecDepth 100000 in
set_option maxHeartbeats 1000000 in
/-- desk.facts -/
theorem facts_any (db : Nat) (W : World) : Calls Tryz.prog 129 #[.pointer (some ⟨db, 0, none⟩)] W fun e W' => e = .returned (.func (.func 152) #[] #[.pointer (some ⟨W.heap.size, 0, none⟩)]) ∧ W'.cell? ⟨W.heap.size, 0, none⟩ = some (.pointer (some ⟨db, 0, none⟩)) ∧ W'.heap.size = W.heap.size + 1 ∧ Below W.heap.size W W' := by
  go_enter Tryz.func129, Tryz.ntmps129
  go_wp2_with fail
  go_ret
  exact ⟨rfl, (by (repeat' refine And.intro ?_ ?_) <;> (repeat (first | with_reducible assumption | (simp; done) | (with_reducible first | refine Kd ?_ | refine Kn ?_ | refine Kb (by assumption) ?_) | ((with_reducible first | refine Kw ?_ ?_ | refine Fw ?_) <;> first | with_reducible rfl | (simp; done)) | (with_reducible first | refine Ka _ ?_ | refine Ks _ (by first | exact Nat.le_refl _ | omega | (simp; done) | (simp; omega)) ?_ | refine Fd ?_ | refine Fn ?_ | refine Fb (by assumption) (by first | exact Nat.le_refl _ | omega | (simp; done) | (simp; omega)) ?_ | refine Fa _ (by first | exact Nat.le_refl _ | omega | (simp; done) | (simp; omega)) ?_ | refine Fs _ ?_)))), by simp, (by repeat (first | (with_reducible first | exact Below.refl _ _ | refine Below.drew ?_ | refine below_drewN ?_ _) | ((with_reducible first | refine Lc ?_ ?_ _ | refine Ls ?_ ?_ _ | refine Lv (by assumption) ?_ ?_); · first | exact Nat.le_refl _ | omega | (simp; done) | (simp; omega) | (simp at *; omega))))⟩
end Go.Proofs.YtnnikeolgknfoaaGreat
