/- The reference: truths. -/
import Derived.Test.YtegmomappbehcaaTc
set_option linter.unusedSimpArgs false
set_option linter.unusedVariables false
namespace Go.Proofs.Ytegmomappbehcaa
open Go.RowKit Go.Shelf

theorem gb_trans {A C D : World} {m : Nat} (h : A.grownBy C (some m)) (k : C.grownBy D (some m)) : A.grownBy D (some m) :=
  ⟨k.os.trans h.os, k.tape.trans h.tape, k.output.trans h.output, Nat.le_trans h.size k.size, fun i hi hn => (k.block i (Nat.lt_of_lt_of_le hi h.size) hn).trans (h.block i hi hn)⟩
theorem gb_set (W : World) (b o : Nat) (v : Value) : W.grownBy (W.setCell ⟨b, o, none⟩ v) (some b) :=
  ⟨rfl, rfl, rfl, by simp [World.setCell], fun i _ hn => Below.heap_setCell _ _ _ _ (fun e => hn (by rw [e]))⟩
theorem gb_below {A C : World} {m B : Nat} (h : A.grownBy C (some m)) (hB : B ≤ A.heap.size) (hm : B ≤ m) : Below B A C :=
  (Below.refl B A).grown h hB (fun k e => by injection e with e; omega)

/-- a block of 25 truth values -/
def Bool25 (w : World) (b : Nat) (X : Nat → Bool) : Prop := (∀ k, k < 25 → w.cell? ⟨b, k, none⟩ = some (.bool (X k))) ∧ ∀ k, w.frozen? ⟨b, k, none⟩ = false
theorem Bool25.same {w w' : World} {b : Nat} {X : Nat → Bool} (h : Bool25 w b X) (hb : w'.heap[b]? = w.heap[b]?) : Bool25 w' b X :=
  ⟨fun k hk => (World.cell?_of_block hb).trans (h.1 k hk), fun k => fro_same hb (h.2 k)⟩
theorem Bool25.lt {w : World} {b : Nat} {X : Nat → Bool} (h : Bool25 w b X) : b < w.heap.size := World.block_lt_of_cell? w _ (h.1 0 (by omega))
theorem Bool25.row {w : World} {b : Nat} {X : Nat → Bool} (h : Bool25 w b X) : BoolRow w w.heap.size (some ⟨b, 0, none⟩) 25 X := fun k hk => ⟨b, 0, rfl, h.lt, by rw [Nat.zero_add]; exact h.1 k hk⟩
theorem Bool25.congr {w : World} {b : Nat} {X Y : Nat → Bool} (h : Bool25 w b X) (e : ∀ k, k < 25 → X k = Y k) : Bool25 w b Y := ⟨fun k hk => (h.1 k hk).trans (by rw [e k hk]), h.2⟩
theorem Bool25.set {w : World} {b : Nat} {X : Nat → Bool} (h : Bool25 w b X) (k : Nat) (v : Bool) : Bool25 (w.setCell ⟨b, k, none⟩ (.bool v)) b (fun j => if j = k then v else X j) := by
  refine ⟨fun j hj => ?_, fun j => fro_set_of _ (h.2 j)⟩
  by_cases e : j = k
  · subst e
    have := h.1 j hj
    simp [go_sem, this]
  · have := h.1 j hj
    simp [go_sem, this, e]
theorem bool25_new (w : World) : Bool25 (w.alloc (.cells #[.bool false, .bool false, .bool false, .bool false, .bool false, .bool false, .bool false, .bool false, .bool false, .bool false, .bool false, .bool false, .bool false, .bool false, .bool false, .bool false, .bool false, .bool false, .bool false, .bool false, .bool false, .bool false, .bool false, .bool false, .bool false] 4)) w.heap.size (fun _ => false) := by
  refine ⟨fun k hk => ?_, fun k => fro_new_of rfl⟩
  refine cell_new_of rfl ?_
  have : ∀ k, k < 25 → (#[Value.bool false, .bool false, .bool false, .bool false, .bool false, .bool false, .bool false, .bool false, .bool false, .bool false, .bool false, .bool false, .bool false, .bool false, .bool false, .bool false, .bool false, .bool false, .bool false, .bool false, .bool false, .bool false, .bool false, .bool false, .bool false] : Array Value)[k]? = some (.bool false) := by
    intro k hk
    match k, hk with
    | 0, _ | 1, _ | 2, _ | 3, _ | 4, _ | 5, _ | 6, _ | 7, _ | 8, _ | 9, _ | 10, _ | 11, _ | 12, _ | 13, _ | 14, _ | 15, _ | 16, _ | 17, _ | 18, _ | 19, _ | 20, _ | 21, _ | 22, _ | 23, _ | 24, _ => rfl
    | k + 25, h => exact absurd h (by omega)
  exact this k hk

theorem mk25 (w : World) : (Instr.makeSlice 146 (.int .i64 25) (.int .i64 25)).run Try.prog w = .ok (.slice (some ⟨w.heap.size, 0, none⟩) 25 25) (w.alloc (.cells #[.bool false, .bool false, .bool false, .bool false, .bool false, .bool false, .bool false, .bool false, .bool false, .bool false, .bool false, .bool false, .bool false, .bool false, .bool false, .bool false, .bool false, .bool false, .bool false, .bool false, .bool false, .bool false, .bool false, .bool false, .bool false] 4)) := by kernel_rfl

set_option maxRecDepth 100000 in
set_option maxHeartbeats 4000000 in
theorem truths_any (st : St) (hst : st.ok) (B : Nat) (pA gA : Option Addr) (pc gc : Nat) (lA : Option Addr) (lc : Nat) (X : Nat → Int) (pick F : Int) (W : World) (hs : StRow W B st pA pc gA gc) (hl : IntRow W W.heap.size lA st.n X) (hX : ∀ k, k < st.n → 0 ≤ X k ∧ X k ≤ (st.P k).s) :
    Calls Try.prog 97 #[stV pA st.n pc gA st.m gc st.lots, .slice lA st.n lc, .int .i64 pick, .int .i64 F] W fun e W' => (∃ b, e = .returned (.slice (some ⟨b, 0, none⟩) 25 25) ∧ W.heap.size ≤ b ∧ Bool25 W' b (st.tr X pick F st.n)) ∧ Below W.heap.size W W' := by
  have HS := Lib.hid hs
  have HL := Lib.hid hl
  have HX := Lib.hid hX
  have HST := Lib.hid hst
  have hB := hs.lt
  have n4 := hst.n4
  have hmk := mk25
  clear hs hl hX hst
  go_enter Try.func97, Try.ntmps97
  go_upto_region 2 with fail
  refine wp_world (fun W1 => W1.cell? ⟨W.heap.size, 0, none⟩ = some (.slice pA st.n pc) ∧ Bool25 W1 (W.heap.size + 1) (fun _ => false) ∧ Below W.heap.size W W1 ∧ W.heap.size + 2 ≤ W1.heap.size) ⟨(by (repeat' refine And.intro ?_ ?_) <;> (repeat (first | (with_reducible assumption) | (simp; done) | (with_reducible refine cell_drew_of ?_) | (with_reducible refine cell_drewN_of ?_) | (with_reducible refine cell_below_of (by with_reducible assumption) ?_) | ((with_reducible refine cell_new_of ?_ ?_) <;> (first | (with_reducible rfl) | (simp; done))) | ((with_reducible refine fro_new_of ?_) <;> (first | (with_reducible rfl) | (simp; done))) | (with_reducible refine cell_alloc_of _ ?_) | (with_reducible refine cell_set_of _ (by (first | exact Nat.le_refl _ | omega | (simp; done) | (simp; omega))) ?_) | (with_reducible refine fro_drew_of ?_) | (with_reducible refine fro_drewN_of ?_) | (with_reducible refine fro_below_of (by with_reducible assumption) (by (first | exact Nat.le_refl _ | omega | (simp; done) | (simp; omega))) ?_) | (with_reducible refine fro_alloc_of _ (by (first | exact Nat.le_refl _ | omega | (simp; done) | (simp; omega))) ?_) | (with_reducible refine fro_set_of _ ?_)))), by first | exact bool25_new _ | (have := bool25_new (W.alloc (.cells #[.slice pA st.n pc, .slice gA st.m gc, .int .i64 st.lots] 34)); simpa using this), (by repeat (first | (with_reducible exact Below.refl _ _) | (with_reducible refine Below.drew ?_) | (with_reducible refine below_drewN ?_ _) | ((with_reducible refine below_alloc ?_ ?_ _); · (first | exact Nat.le_refl _ | omega | (simp; done) | (simp; omega) | (simp at *; omega))) | ((with_reducible refine below_set ?_ ?_ _); · (first | exact Nat.le_refl _ | omega | (simp; done) | (simp; omega) | (simp at *; omega))) | ((with_reducible refine below_via (by with_reducible assumption) ?_ ?_); · (first | exact Nat.le_refl _ | omega | (simp; done) | (simp; omega) | (simp at *; omega))))), by simp⟩ ?_
  rintro W1 ⟨a0, hq, hb1, hs1⟩
  have HA := Lib.hid a0
  have HB1 := Lib.hid hb1
  have c0 := hq.1 0 (by omega)
  have f0 := hq.2 0
  have HQ := Lib.hid (((hq.set 0 true).congr (Y := st.tr X pick F 0) (fun k _ => by simp [St.tr])))
  have HB2 := Lib.hid (show Below W.heap.size W (W1.setCell ⟨W.heap.size + 1, 0, none⟩ (.bool true)) from (by repeat (first | (with_reducible exact Below.refl _ _) | (with_reducible refine Below.drew ?_) | (with_reducible refine below_drewN ?_ _) | ((with_reducible refine below_alloc ?_ ?_ _); · (first | exact Nat.le_refl _ | omega | (simp; done) | (simp; omega) | (simp at *; omega))) | ((with_reducible refine below_set ?_ ?_ _); · (first | exact Nat.le_refl _ | omega | (simp; done) | (simp; omega) | (simp at *; omega))) | ((with_reducible refine below_via (by with_reducible assumption) ?_ ?_); · (first | exact Nat.le_refl _ | omega | (simp; done) | (simp; omega) | (simp at *; omega))))))
  have HA2 := Lib.hid (show (W1.setCell ⟨W.heap.size + 1, 0, none⟩ (.bool true)).cell? ⟨W.heap.size, 0, none⟩ = some (.slice pA st.n pc) from (by (repeat' refine And.intro ?_ ?_) <;> (repeat (first | (with_reducible assumption) | (simp; done) | (with_reducible refine cell_drew_of ?_) | (with_reducible refine cell_drewN_of ?_) | (with_reducible refine cell_below_of (by with_reducible assumption) ?_) | ((with_reducible refine cell_new_of ?_ ?_) <;> (first | (with_reducible rfl) | (simp; done))) | ((with_reducible refine fro_new_of ?_) <;> (first | (with_reducible rfl) | (simp; done))) | (with_reducible refine cell_alloc_of _ ?_) | (with_reducible refine cell_set_of _ (by (first | exact Nat.le_refl _ | omega | (simp; done) | (simp; omega))) ?_) | (with_reducible refine fro_drew_of ?_) | (with_reducible refine fro_drewN_of ?_) | (with_reducible refine fro_below_of (by with_reducible assumption) (by (first | exact Nat.le_refl _ | omega | (simp; done) | (simp; omega))) ?_) | (with_reducible refine fro_alloc_of _ (by (first | exact Nat.le_refl _ | omega | (simp; done) | (simp; omega))) ?_) | (with_reducible refine fro_set_of _ ?_)))))
  have hs2 : W.heap.size + 2 ≤ (W1.setCell ⟨W.heap.size + 1, 0, none⟩ (.bool true)).heap.size := by simp [World.setCell]; omega
  clear a0 hb1 hq
  go_wp2_with fail
  generalize (W1.setCell ⟨W.heap.size + 1, 0, none⟩ (.bool true)) = W2 at HQ HB2 HA2 hs2 ⊢
  clear HA HB1 c0 f0 hs1 W1
  go_loopw [9, 10] (fun v i wr => ∃ k nb : Nat, k ≤ st.n ∧ i = .int .i64 k ∧ v = .slice (some ⟨nb, 0, none⟩) 25 25 ∧ W.heap.size + 1 ≤ nb ∧ Hid (Bool25 wr nb (st.tr X pick F k)) ∧ Hid (Below W.heap.size W wr) ∧ Hid (wr.cell? ⟨W.heap.size, 0, none⟩ = some (.slice pA st.n pc))) (fun _ i _ => st.n - (intOf i).toNat)
  case atStart => exact ⟨0, _, Nat.zero_le _, rfl, rfl, Nat.le_refl _, HQ, HB2, HA2⟩
  case round =>
    obtain ⟨k, nb, hk, rfl, rfl, hnb, hq, hbw, ha⟩ := hrel
    have hsw := hbw.out.size
    have a0 := ha.out
    have hnl := hq.out.lt
    by_cases hlt : k < st.n
    · obtain ⟨b, o, rfl, hbl, c0, c1, c2, c3⟩ := (HS.out.p.below (hbw.out.mono hB)) k hlt
      have hk0 : (0 : Int) ≤ (k : Int) := by omega
      have hkn : (k : Int) < (st.n : Int) := by omega
      have hrng := Lib.hid (HST.out.pk k hlt)
      have hc7 : (st.P k).cnt ≤ 7 := by
        have h1 := hrng.out
        unfold Pk.rng at h1
        unfold Pk.cnt Pk.hi
        omega
      go_wp2_with fail
      refine (fouls_any (st.P k) hrng.out _).mono ?_
      rintro e w1 ⟨⟨fA, fc, rfl, hr, hfc, hfn⟩, hb⟩
      have hb1 : Below wr.heap.size wr w1 := (by repeat (first | (with_reducible exact Below.refl _ _) | (with_reducible refine Below.drew ?_) | (with_reducible refine below_drewN ?_ _) | ((with_reducible refine below_alloc ?_ ?_ _); · (first | exact Nat.le_refl _ | omega | (simp; done) | (simp; omega) | (simp at *; omega))) | ((with_reducible refine below_set ?_ ?_ _); · (first | exact Nat.le_refl _ | omega | (simp; done) | (simp; omega) | (simp at *; omega))) | ((with_reducible refine below_via (by with_reducible assumption) ?_ ?_); · (first | exact Nat.le_refl _ | omega | (simp; done) | (simp; omega) | (simp at *; omega)))))
      have hs1 := hb.size
      simp only [World.size_alloc] at hs1 hfn
      have HFR := Lib.hid hr
      have HFN := Lib.hid hfn
      have HN1 := Lib.hid (show Bool25 w1 wr.heap.size (fun _ => false) from (bool25_new wr).same (hb.block _ (by simp)))
      have HQ1 := Lib.hid (hq.out.same (hb1.block _ hnl))
      have HB1 := Lib.hid (hbw.out.trans (hb1.mono hsw))
      have HWB := Lib.hid hb1
      have A1 := Lib.hid (cell_same (hb1.block _ (by omega)) a0)
      obtain ⟨wo, rfl⟩ : ∃ wo, wo = wr := ⟨_, rfl⟩
      clear hb hb1 hr c0 c1 c2 c3 a0 hfn
      go_wp2_with fail
      go_loopw [13] (fun i wz => ∃ K : Nat, K ≤ (st.P k).cnt ∧ i = .int .i64 K ∧ Hid (Bool25 wz wo.heap.size (tk (st.P k) (X k) (decide ((k : Int) = pick)) F (st.tr X pick F k) K)) ∧ Hid (w1.grownBy wz (some wo.heap.size))) (fun i _ => (st.P k).cnt - (intOf i).toNat)
      case atStart => exact ⟨0, Nat.zero_le _, rfl, Lib.hid HN1.out, Lib.hid (World.grownBy.refl _ _)⟩
      case round =>
        obtain ⟨K, hK, rfl, hz, hg⟩ := hrel
        by_cases hltK : K < (st.P k).cnt
        · obtain ⟨fb, fo, rfl, hfl, d0⟩ := HFR.out K hltK
          have hfb := HFN.out _ rfl
          have d0 := cell_same (hg.out.block fb hfl (by intro e; injection e with e; (try simp at hfb); omega)) d0
          have hK0 : (0 : Int) ≤ (K : Int) := by omega
          have hKn : (K : Int) < ((st.P k).cnt : Int) := by omega
          obtain ⟨sk, hsk'⟩ : ∃ sk, sk = (decide ((k : Int) = pick) && decide ((st.P k).f + (K : Int) ≠ F)) := ⟨_, rfl⟩
          have HSK := Lib.hid hsk'
          have HLK := Lib.hid hltK
          clear hsk'
          go_upto_region 11 with fail
          go_cut [48] (fun c wx => c = .bool sk ∧ wx = wr)
          case first =>
            cases e1 : ((k : Int) == pick) with
            | false =>
              have HS0 : Hid (sk = false) := Lib.hid (by rw [HSK.out]; simp at e1; simp [e1])
              go_wp2_with fail
              go_meet
              exact ⟨by rw [HS0.out], rfl⟩
            | true =>
              have HS0 : Hid (sk = ((st.P k).f + (K : Int) != F)) := Lib.hid (by rw [HSK.out, decide_eq_true (by simpa using e1 : (k : Int) = pick), Bool.true_and]; by_cases h : (st.P k).f + (K : Int) = F <;> simp [h])
              go_wp2_with fail
              go_meet
              exact ⟨by rw [HS0.out], rfl⟩
          case rest =>
            obtain ⟨rfl, rfl⟩ := hcut
            cases sk with
            | true =>
              have HE : Hid (∀ j, tk (st.P k) (X k) (decide ((k : Int) = pick)) F (st.tr X pick F k) (K + 1) j = tk (st.P k) (X k) (decide ((k : Int) = pick)) F (st.tr X pick F k) K j) := Lib.hid (fun j => by
                show (_ || (!(_ && _) && _)) = _
                rw [← HSK.out]; simp)
              go_wp2_with fail
              go_roundw
              case rel => exact ⟨K + 1, HLK.out, by go_num, Lib.hid (hz.out.congr (fun j _ => (HE.out j).symm)), hg⟩
              case measure => have := HLK.out; simp [intOf]; omega
            | false =>
              have HE : Hid (∀ j, tk (st.P k) (X k) (decide ((k : Int) = pick)) F (st.tr X pick F k) (K + 1) j = (tk (st.P k) (X k) (decide ((k : Int) = pick)) F (st.tr X pick F k) K j || tn (st.P k) (X k) ((st.P k).f + K) (st.tr X pick F k) 7 j)) := Lib.hid (fun j => by
                show (_ || (!(_ && _) && _)) = _
                rw [← HSK.out]; simp)
              clear d0
              go_wp2_with fail
              go_loopw [14] (fun i wy => ∃ N : Nat, N ≤ 7 ∧ i = .int .i64 N ∧ Hid (Bool25 wy wo.heap.size (fun j => tk (st.P k) (X k) (decide ((k : Int) = pick)) F (st.tr X pick F k) K j || tn (st.P k) (X k) ((st.P k).f + K) (st.tr X pick F k) N j)) ∧ Hid (w1.grownBy wy (some wo.heap.size))) (fun i _ => 7 - (intOf i).toNat)
              case atStart => exact ⟨0, by omega, rfl, Lib.hid (hz.out.congr (fun j _ => by simp [tn])), hg⟩
              case round =>
                rename_i wq0
                clear hz hg
                obtain ⟨N, hN, rfl, hz, hg⟩ := hrel
                by_cases hltN : N < 7
                · have hN0 : (0 : Int) ≤ (N : Int) := by omega
                  have hN6 : (N : Int) ≤ 6 := by omega
                  have A2 := Lib.hid (cell_same (hg.out.block W.heap.size (by omega) (by intro e; injection e with e; omega)) A1.out)
                  have hwy : Hid (Below W.heap.size W wr) := Lib.hid (HB1.out.trans (gb_below hg.out (by omega) (by omega)))
                  obtain ⟨b', o', hA, _, c0, c1, c2, c3⟩ := (HS.out.p.below (hwy.out.mono hB)) k (by omega)
                  injection hA with hA
                  injection hA with hA1 hA2
                  subst hA1 hA2
                  obtain ⟨lb, lo, rfl, hlb, l0⟩ := (HL.out.below hwy.out) k (by omega)
                  obtain ⟨fb', fo', hA, _, d0⟩ := HFR.out K HLK.out
                  injection hA with hA
                  injection hA with hA1 hA2
                  subst hA1 hA2
                  have d0 := cell_same (hg.out.block fb hfl (by intro e; injection e with e; (try simp at hfb); omega)) d0
                  have a0 := A2.out
                  have HCAN := Lib.hid (show (0 ≤ X k ∧ X k ≤ (st.P k).s) ∧ 0 ≤ (st.P k).f + (K : Int) ∧ (st.P k).f + (K : Int) ≤ 6 from ⟨HX.out k (by omega), by
                    have h1 := hrng.out
                    have h2 := HLK.out
                    unfold Pk.rng at h1
                    unfold Pk.cnt Pk.hi at h2
                    omega⟩)
                  go_wp2_with fail
                  refine region_qbw (by kernel_rfl) (by kernel_rfl) ?_
                  have x0 := cell_regrown a0
                  have x1 := cell_regrown c0
                  have x2 := cell_regrown c1
                  have x3 := cell_regrown c2
                  have x4 := cell_regrown c3
                  have x5 := cell_regrown l0
                  have x6 := cell_regrown d0
                  clear a0 c0 c1 c2 c3 l0 d0
                  repeat (first | go_big_quiet_step ((go_at_call 123; exact Calls.regrown_of (can_any (st.P k) hrng.out _ _ _ HCAN.out.1 HCAN.out.2 _))) | quiet_step ((go_at_call 123; exact Calls.regrown_of (can_any (st.P k) hrng.out _ _ _ HCAN.out.1 HCAN.out.2 _))))
                  refine wpQuiet_nil ?_; intro wq hbq
                  clear x0 x1 x2 x3 x4 x5 x6
                  have hz2 := Lib.hid (hz.out.same (hbq.block _ hz.out.lt))
                  have hg2 := Lib.hid (gb_trans hg.out (grown_of_below wo.heap.size hbq))
                  clear hbq hz hg
                  cases jc : (st.P k).can (X k) ((st.P k).f + (K : Int)) (N : Int) with
                  | false =>
                    have JC := Lib.hid jc
                    go_wp2_with fail
                    go_roundw
                    case rel => exact ⟨N + 1, hltN, by go_num, Lib.hid (hz2.out.congr (fun j _ => by show _ = (_ || (_ || (_ && _))); rw [JC.out]; simp)), hg2⟩
                    case measure => simp [intOf]; omega
                  | true =>
                    have JC := Lib.hid jc
                    go_wp2_with fail
                    go_loopw [15] (fun i wx => ∃ M : Nat, M + N ≤ 25 ∧ i = .int .i64 M ∧ Hid (Bool25 wx wo.heap.size (fun j => (tk (st.P k) (X k) (decide ((k : Int) = pick)) F (st.tr X pick F k) K j || tn (st.P k) (X k) ((st.P k).f + K) (st.tr X pick F k) N j) || conM (st.tr X pick F k) N M j)) ∧ Hid (w1.grownBy wx (some wo.heap.size))) (fun i _ => 25 - (intOf i).toNat)
                    case atStart => exact ⟨0, by omega, rfl, Lib.hid (hz2.out.congr (fun j _ => by simp [conM])), hg2⟩
                    case round =>
                      rename_i wq1
                      clear hz2 hg2
                      obtain ⟨M, hM, rfl, hz, hg⟩ := hrel
                      have et : ((M : Int) + (N : Int)).toNat = M + N := by omega
                      have ew : IntKind.i64.wrap ((M : Int) + (N : Int)) = (M : Int) + (N : Int) := IntWalk.i64_in _ (by omega)
                      have hM0 : (0 : Int) ≤ (M : Int) := by omega
                      have hMN0 : (0 : Int) ≤ (M : Int) + (N : Int) := by omega
                      by_cases hltM : M + N < 25
                      · have hMN : (M : Int) + (N : Int) < 25 := by omega
                        have hM25 : (M : Int) < 25 := by omega
                        have hnz := hz.out
                        generalize hYf : (fun j => (tk (st.P k) (X k) (decide ((k : Int) = pick)) F (st.tr X pick F k) K j || tn (st.P k) (X k) ((st.P k).f + K) (st.tr X pick F k) N j) || conM (st.tr X pick F k) N M j) = Y at hnz
                        have HY := Lib.hid hYf
                        have HZ := Lib.hid hnz
                        have y0 := hnz.1 (M + N) hltM
                        have fy := hnz.2 (M + N)
                        have q0 := cell_same (hg.out.block nb (by have := HQ1.out.lt; omega) (by intro e; injection e with e; omega)) (HQ1.out.1 M (by omega))
                        have hnew : ∀ v, v = (Y (M + N) || st.tr X pick F k M) → Hid (Bool25 (wr.setCell ⟨wo.heap.size, M + N, none⟩ (.bool v)) wo.heap.size (fun j => (tk (st.P k) (X k) (decide ((k : Int) = pick)) F (st.tr X pick F k) K j || tn (st.P k) (X k) ((st.P k).f + K) (st.tr X pick F k) N j) || conM (st.tr X pick F k) N (M + 1) j)) := fun v hv => Lib.hid ((HZ.out.set (M + N) v).congr (fun j _ => by
                          rw [hv, ← HY.out]
                          by_cases e : j = M + N
                          · subst e
                            rw [if_pos rfl]
                            simp [conM]
                          · rw [if_neg e]
                            have : conM (st.tr X pick F k) N (M + 1) j = conM (st.tr X pick F k) N M j := by
                              unfold conM
                              by_cases h1 : N ≤ j
                              · have : (j - N < M + 1) = (j - N < M) := by apply propext; omega
                                simp only [this]
                              · simp [h1]
                            rw [this]))
                        have HNEW := Lib.hid hnew
                        have HG3 : Hid (∀ v, w1.grownBy (wr.setCell ⟨wo.heap.size, M + N, none⟩ (.bool v)) (some wo.heap.size)) := Lib.hid (fun v => gb_trans hg.out (gb_set _ _ _ _))
                        clear hYf hnz hnew
                        generalize hy : Y (M + N) = y at y0
                        have HYV := Lib.hid hy
                        clear hy
                        cases y with
                        | true =>
                          go_wp2_with fail
                          go_roundw
                          case rel => exact ⟨M + 1, by omega, by go_num, HNEW.out _ (by rw [HYV.out]; rfl), HG3.out _⟩
                          case measure => simp [intOf]; omega
                        | false =>
                          go_wp2_with fail
                          go_roundw
                          case rel => exact ⟨M + 1, by omega, by go_num, HNEW.out _ (by rw [HYV.out]; rfl), HG3.out _⟩
                          case measure => simp [intOf]; omega
                      · have hge : ¬ (M : Int) + (N : Int) < 25 := by omega
                        have hz3 : Hid (Bool25 wr wo.heap.size (fun j => tk (st.P k) (X k) (decide ((k : Int) = pick)) F (st.tr X pick F k) K j || tn (st.P k) (X k) ((st.P k).f + K) (st.tr X pick F k) (N + 1) j)) := Lib.hid (hz.out.congr (fun j hj => by
                          show _ = (_ || (_ || (_ && con _ N j)))
                          rw [JC.out, Bool.true_and, Bool.or_assoc]
                          congr 2
                          unfold conM con
                          by_cases h1 : N ≤ j
                          · have : j - N < M := by omega
                            simp [this]
                          · simp [h1]))
                        go_wp2_with fail
                        go_roundw
                        case rel => exact ⟨N + 1, hltN, by go_num, hz3, hg⟩
                        case measure => simp [intOf]; omega
                · have hN7 : N = 7 := by omega
                  subst hN7
                  go_wp2_with fail
                  go_roundw
                  case rel => exact ⟨K + 1, HLK.out, by go_num, Lib.hid (hz.out.congr (fun j _ => (HE.out j).symm)), hg⟩
                  case measure => have := HLK.out; simp [intOf]; omega
        · have hK' : K = (st.P k).cnt := by omega
          have hge : ¬ (K : Int) < ((st.P k).cnt : Int) := by omega
          have HZ : Hid (Bool25 wr wo.heap.size (st.tr X pick F (k + 1))) := Lib.hid (by rw [hK'] at hz; exact hz.out)
          have HBW : Hid (Below W.heap.size W wr) := Lib.hid (HB1.out.trans (gb_below hg.out (by omega) (by omega)))
          have A2 := Lib.hid (cell_same (hg.out.block W.heap.size (by omega) (by intro e; injection e with e; omega)) A1.out)
          go_wp2_with fail
          go_roundw
          case rel => exact ⟨k + 1, _, by omega, by go_num, rfl, by omega, HZ, HBW, A2⟩
          case measure => simp [intOf]; omega
    · have hk' : k = st.n := by omega
      have hge : ¬ (k : Int) < (st.n : Int) := by omega
      have HZ : Hid (Bool25 wr nb (st.tr X pick F st.n)) := Lib.hid (by rw [hk'] at hq; exact hq.out)
      go_wp2_with fail
      go_ret
      exact ⟨⟨nb, rfl, by omega, HZ.out⟩, hbw.out⟩
end Go.Proofs.Ytegmomappbehcaa
