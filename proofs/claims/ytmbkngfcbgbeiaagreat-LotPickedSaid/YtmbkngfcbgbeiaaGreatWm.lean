/- lot.within: an iterator over all bags within one. -/
import Derived.Test.YtmbkngfcbgbeiaaGreatR
import Derived.Test.YtmbkngfcbgbeiaaGreatQ
import Derived.Test.YtmbkngfcbgbeiaaGreatB
import Derived.Shelf.Abstract
import Derived.Shelf.RegionOpen
import Derived.OwnWalkIn
import Derived.TacticsInMore
import Derived.LoopNIn
import Derived.LoopIn
set_option linter.unusedSimpArgs false
set_option linter.unusedVariables false
namespace Go.Proofs.YtmbkngfcbgbeiaaGreat
open Go.RowKit Go.Shelf

/-- a block holds a bag -/
def BagC (w : World) (b : Nat) (x : Bag) : Prop := ∀ k, k < 4 → w.cell? ⟨b, k, none⟩ = some (.int .i64 (x.at k))
theorem BagC.same {w w' : World} {b : Nat} {x : Bag} (h : BagC w b x) (hb : w'.heap[b]? = w.heap[b]?) : BagC w' b x := fun k hk => (World.cell?_of_block hb).trans (h k hk)
theorem BagC.lt {w : World} {b : Nat} {x : Bag} (h : BagC w b x) : b < w.heap.size := World.block_lt_of_cell? w _ (h 0 (by omega))

/-- what the iterator keeps: yield, the bag at work, itself -/
structure FillAt (w : World) (l yb bb lb fb : Nat) (x : Bag) : Prop where
  y : w.cell? ⟨yb, 0, none⟩ = some (.func (.yield l) #[] #[])
  f : w.cell? ⟨fb, 0, none⟩ = some (.func (.func 89) #[] #[.pointer (some ⟨yb, 0, none⟩), .pointer (some ⟨bb, 0, none⟩), .pointer (some ⟨lb, 0, none⟩), .pointer (some ⟨fb, 0, none⟩)])
  b : BagC w bb x
  fr : ∀ k, k < 4 → w.frozen? ⟨bb, k, none⟩ = false
theorem FillAt.new {w w' : World} {l yb bb lb fb : Nat} {x : Bag} {B : Nat} (h : FillAt w l yb bb lb fb x) (hn : NewFrom B w w') (hy : B ≤ yb) (hb : B ≤ bb) (hf : B ≤ fb) : FillAt w' l yb bb lb fb x :=
  ⟨hn.cell hy h.y, hn.cell hf h.f, h.b.same (hn.same _ hb h.b.lt), fun k hk => (hn.frozen hb (h.b k hk)).trans (h.fr k hk)⟩
theorem FillAt.set {w : World} {l yb bb lb fb : Nat} {x : Bag} (h : FillAt w l yb bb lb fb x) (hy : yb ≠ bb) (hf : fb ≠ bb) {k : Nat} (hk : k < 4) (v : Int) : FillAt (w.setCell ⟨bb, k, none⟩ (.int .i64 v)) l yb bb lb fb (x.set k v) := by
  refine ⟨cell_set_of _ (Ne.symm hy) h.y, cell_set_of _ (Ne.symm hf) h.f, fun j hj => ?_, fun j hj => fro_set_of _ (h.fr j hj)⟩
  rw [Bag.at_set hk]
  by_cases e : j = k
  · subst e
    rw [if_pos rfl, World.cell?_setCell_same' _ _ _ (by rw [h.b j hj]; rfl)]
  · rw [if_neg e, World.cell?_setCell_other _ _ _ _ (by intro h; injection h with _ h _; omega)]
    exact h.b j hj

/-- what fill gives -/
def FillPost (J Jx : List Bag → World → Prop) (L : List Bag) (l yb bb lb fb : Nat) (pre M : List Bag) (b : Bag) (e : Ending) (W' : World) : Prop :=
  (e = .returned (.bool true) ∧ FillAt W' l yb bb lb fb b ∧ J (pre ++ M) W') ∨ (e = .returned (.bool false) ∧ ∃ q, q <+: L ∧ Jx q W')

set_option maxRecDepth 100000 in
set_option maxHeartbeats 1000000 in
theorem fill_in (l : Nat) (left : Bag) (h6 : ∀ k, k < 4 → 0 ≤ left.at k ∧ left.at k ≤ 6) (J Jx : List Bag → World → Prop) (B : Nat) (hJ : AbBelow B J) (yb bb lb fb : Nat) (hyb : B ≤ yb) (hbb : B ≤ bb) (hfb : B ≤ fb) (hn1 : yb ≠ bb) (hn2 : fb ≠ bb)
    (hKl : ∀ pre W1, J pre W1 → BagC W1 lb left) (L : List Bag)
    (hY : ∀ pre x W1, J pre W1 → pre ++ [x] <+: L → YieldAt Fence.wide 0 Tryz.prog l #[bagV x] W1 fun e W' =>
      (e = .returned (.bool true) ∧ J (pre ++ [x]) W' ∧ NewFrom B W1 W') ∨ (e = .returned (.bool false) ∧ Jx (pre ++ [x]) W')) :
    ∀ (r : Nat) (p : Nat), p + r = 4 → ∀ (b : Bag) (pre : List Bag) (W : World), FillAt W l yb bb lb fb b → (∀ k, p ≤ k → k < 4 → b.at k = 0) → J pre W → pre ++ exts left r b <+: L →
      CallsIn Fence.wide 0 Tryz.prog 89 #[.int .i64 p, .pointer (some ⟨yb, 0, none⟩), .pointer (some ⟨bb, 0, none⟩), .pointer (some ⟨lb, 0, none⟩), .pointer (some ⟨fb, 0, none⟩)] W
        (FillPost J Jx L l yb bb lb fb pre (exts left r b) b)
  | 0, p, hp, b, pre, W, hF, hz, hj, hL => by
    obtain ⟨fn, tmps, assign, body, hy, hR⟩ := hY pre b W hj hL
    have HR := Lib.hid hR
    have c0 := hF.y
    have c1 := hF.b 0 (by omega)
    have c2 := hF.b 1 (by omega)
    have c3 := hF.b 2 (by omega)
    have c4 := hF.b 3 (by omega)
    simp only [Bag.at] at c1 c2 c3 c4
    have HF := Lib.hid hF
    have HL := Lib.hid hL
    obtain rfl : p = 4 := by omega
    clear hR hF hY hKl hJ h6 hj hL hz
    refine callsIn_of_wp Tryz.func89 rfl trivial ?_ rfl
    simp only [Tryz.ntmps89, List.size_toArray, List.length_cons, List.length_nil, Nat.reduceAdd, Nat.reduceSub, Array.replicate_succ, Array.replicate_zero, List.push_toArray, List.append_toArray, List.nil_append, List.cons_append]
    gi_wp2
    refine ⟨rfl, HR.out.mono ?_⟩
    rintro e W' (⟨rfl, hJ', hn⟩ | ⟨rfl, hx⟩)
    · gi_wp2
      exact bodyPost_ret (v := .bool true) (by simp [results, Tryz.results89, go_sem]) rfl (.inl ⟨rfl, HF.out.new hn hyb hbb hfb, hJ'⟩)
    · gi_wp2
      exact bodyPost_ret (v := .bool false) (by simp [results, Tryz.results89, go_sem]) rfl (.inr ⟨rfl, _, HL.out, hx⟩)
  | r + 1, p, hp, b, pre, W, hF, hz, hj, hL => by
    have HF := Lib.hid hF
    have HKl := Lib.hid hKl
    have HJ := Lib.hid hJ
    have hp3 : p < 4 := by omega
    have e3 : 3 - r = p := by omega
    have hlp := h6 p hp3
    have H6 := Lib.hid h6
    have cl := hKl _ _ hj p hp3
    have Hj := Lib.hid hj
    have HL := Lib.hid hL
    have HZ := Lib.hid hz
    have IH := Lib.hid (show ∀ (b : Bag) (pre : List Bag) (W : World), FillAt W l yb bb lb fb b → (∀ k, p + 1 ≤ k → k < 4 → b.at k = 0) → J pre W → pre ++ exts left r b <+: L →
      CallsIn Fence.wide 0 Tryz.prog 89 #[.int .i64 ((p : Int) + 1), .pointer (some ⟨yb, 0, none⟩), .pointer (some ⟨bb, 0, none⟩), .pointer (some ⟨lb, 0, none⟩), .pointer (some ⟨fb, 0, none⟩)] W
        (FillPost J Jx L l yb bb lb fb pre (exts left r b) b) from fill_in l left h6 J Jx B hJ yb bb lb fb hyb hbb hfb hn1 hn2 hKl L hY r (p + 1) (by omega))
    have hnp : decide ((p : Int) = 4) = false := by simp; omega
    have hnb : ((p : Int) == 4) = false := by simp; omega
    have hp0 : (0 : Int) ≤ (p : Int) := by omega
    have hp4 : (p : Int) < 4 := by omega
    have E3 := Lib.hid e3
    clear hF hY hKl hJ h6 hj hL hz e3 hp
    refine callsIn_of_wp Tryz.func89 rfl trivial ?_ rfl
    simp only [Tryz.ntmps89, List.size_toArray, List.length_cons, List.length_nil, Nat.reduceAdd, Nat.reduceSub, Array.replicate_succ, Array.replicate_zero, List.push_toArray, List.append_toArray, List.nil_append, List.cons_append]
    gi_wp2
    gi_loopw [17] (fun i wr => ∃ k : Nat, (k : Int) ≤ left.at p + 1 ∧ i = .int .i64 k ∧ Hid (∃ v, FillAt wr l yb bb lb fb (b.set p v)) ∧ Hid (J (pre ++ extsK left r b k) wr)) (fun i _ => 7 - (intOf i).toNat)
    case atStart => exact ⟨0, by omega, rfl, Lib.hid ⟨b.at p, by rw [Bag.set_at]; exact HF.out⟩, Lib.hid (by rw [extsK_zero, List.append_nil]; exact Hj.out)⟩
    case round =>
      obtain ⟨k, hk, rfl, ⟨v, hf⟩, hjk⟩ := hrel
      have b0 := hf.b p hp3
      have f0 := hf.fr p hp3
      have y0 := hf.y
      have g0 := hf.f
      have HF1 := Lib.hid hf
      clear hf
      by_cases hlt : (k : Int) < left.at p + 1
      · have hkn : k < (left.at p + 1).toNat := by omega
        have hx := Lib.hid (extsK_succ left r b k)
        have hj2 : Hid (J (pre ++ extsK left r b k) (wr.setCell ⟨bb, p, none⟩ (.int .i64 k))) := Lib.hid (HJ.out _ _ _ hjk.out ((Below.refl _ _).setCell (p := ⟨bb, p, none⟩) hbb _))
        have hf2 : Hid (FillAt (wr.setCell ⟨bb, p, none⟩ (.int .i64 k)) l yb bb lb fb (b.set p k)) := Lib.hid (by rw [← Bag.set_set b v k p]; exact HF1.out.set hn1 hn2 hp3 k)
        have hpre : Hid (pre ++ extsK left r b k ++ exts left r (b.set p k) <+: L) := Lib.hid (by
          have h1 := extsK_prefix left r b (k := k + 1) (m := (left.at p + 1).toNat) (by omega)
          rw [extsK_succ, E3.out] at h1
          have h2 := HL.out
          rw [exts_succ, E3.out] at h2
          rw [List.append_assoc]
          exact ((List.prefix_append_right_inj pre).2 h1).trans h2)
        have hz2 : Hid (∀ j, p + 1 ≤ j → j < 4 → (b.set p k).at j = 0) := Lib.hid (fun j h1 h2 => by rw [Bag.at_set hp3, if_neg (by omega)]; exact HZ.out j (by omega) h2)
        have y1 := hf2.out.y
        have g1 := hf2.out.f
        clear y0 g0
        gi_wp2_with fail
        refine ⟨trivial, rfl, (IH.out (b.set p k) (pre ++ extsK left r b k) _ hf2.out hz2.out hj2.out hpre.out).mono ?_⟩
        rintro e W' (⟨rfl, hF', hJ'⟩ | ⟨rfl, q, hq, hx'⟩)
        · have HF' := Lib.hid hF'
          have HJ' := Lib.hid hJ'
          clear hF' hJ'
          gi_wp2_with fail
          go_roundw
          case rel => exact ⟨k + 1, by omega, by go_num, Lib.hid ⟨k, HF'.out⟩, Lib.hid (by rw [hx.out, E3.out, ← List.append_assoc]; exact HJ'.out)⟩
          case measure => simp [intOf]; have := hlp.2; omega
        · gi_wp2_with fail
          exact bodyPost_ret (v := .bool false) (by simp [results, Tryz.results89, go_sem]) rfl (.inr ⟨rfl, q, hq, hx'⟩)
      · have hk' : k = (left.at p + 1).toNat := by omega
        have hj2 : Hid (J (pre ++ exts left (r + 1) b) (wr.setCell ⟨bb, p, none⟩ (.int .i64 0))) := Lib.hid (by
          rw [exts_succ, E3.out, ← hk']
          exact HJ.out _ _ _ hjk.out ((Below.refl _ _).setCell (p := ⟨bb, p, none⟩) hbb _))
        have hf2 : Hid (FillAt (wr.setCell ⟨bb, p, none⟩ (.int .i64 0)) l yb bb lb fb b) := Lib.hid (by
          have h1 := HF1.out.set hn1 hn2 hp3 0
          rw [Bag.set_set] at h1
          have h2 : b.set p 0 = b := by rw [← HZ.out p (Nat.le_refl _) hp3, Bag.set_at]
          rwa [h2] at h1)
        gi_wp2_with fail
        exact bodyPost_ret (v := .bool true) (by simp [results, Tryz.results89, go_sem]) rfl (.inl ⟨rfl, hf2.out, hj2.out⟩)


set_option maxRecDepth 100000 in
set_option maxHeartbeats 1000000 in
/-- the iterator that within makes -/
theorem within_seq (lb : Nat) (left : Bag) (h6 : ∀ k, k < 4 → 0 ≤ left.at k ∧ left.at k ≤ 6) : SeqL Tryz.prog 88 #[.pointer (some ⟨lb, 0, none⟩)] (fun x => #[bagV x]) (fun w => BagC w lb left) (bagsOf left) := by
  intro l J Jx W hJ hJx hKl hY h0
  obtain ⟨W3, hW3⟩ : ∃ W3, W3 = (((W.alloc (.cells #[.func (.yield l) #[] #[]] 179)).alloc (.cells #[.int .i64 0, .int .i64 0, .int .i64 0, .int .i64 0] 89)).alloc (.cells #[.func (.func 89) #[] #[.pointer (some ⟨W.heap.size, 0, none⟩), .pointer (some ⟨W.heap.size + 1, 0, none⟩), .pointer (some ⟨lb, 0, none⟩), .pointer (some ⟨W.heap.size + 1 + 1, 0, none⟩)]] 68)) := ⟨_, rfl⟩
  have hF : FillAt W3 l W.heap.size (W.heap.size + 1) lb (W.heap.size + 1 + 1) bagZ := by
    subst hW3
    refine ⟨(by repeat (first | (with_reducible assumption) | (simp; done) | (with_reducible refine cell_drew_of ?_) | (with_reducible refine cell_drewN_of ?_) | (with_reducible refine cell_below_of (by with_reducible assumption) ?_) | ((with_reducible refine cell_new_of ?_ ?_) <;> (first | (with_reducible rfl) | (simp; done))) | ((with_reducible refine fro_new_of ?_) <;> (first | (with_reducible rfl) | (simp; done))) | (with_reducible refine cell_alloc_of _ ?_) | (with_reducible refine cell_set_of _ (by (first | exact Nat.le_refl _ | omega | (simp; done) | (simp; omega))) ?_) | (with_reducible refine fro_drew_of ?_) | (with_reducible refine fro_drewN_of ?_) | (with_reducible refine fro_below_of (by with_reducible assumption) (by (first | exact Nat.le_refl _ | omega | (simp; done) | (simp; omega))) ?_) | (with_reducible refine fro_alloc_of _ (by (first | exact Nat.le_refl _ | omega | (simp; done) | (simp; omega))) ?_) | (with_reducible refine fro_set_of _ ?_))), (by repeat (first | (with_reducible assumption) | (simp; done) | (with_reducible refine cell_drew_of ?_) | (with_reducible refine cell_drewN_of ?_) | (with_reducible refine cell_below_of (by with_reducible assumption) ?_) | ((with_reducible refine cell_new_of ?_ ?_) <;> (first | (with_reducible rfl) | (simp; done))) | ((with_reducible refine fro_new_of ?_) <;> (first | (with_reducible rfl) | (simp; done))) | (with_reducible refine cell_alloc_of _ ?_) | (with_reducible refine cell_set_of _ (by (first | exact Nat.le_refl _ | omega | (simp; done) | (simp; omega))) ?_) | (with_reducible refine fro_drew_of ?_) | (with_reducible refine fro_drewN_of ?_) | (with_reducible refine fro_below_of (by with_reducible assumption) (by (first | exact Nat.le_refl _ | omega | (simp; done) | (simp; omega))) ?_) | (with_reducible refine fro_alloc_of _ (by (first | exact Nat.le_refl _ | omega | (simp; done) | (simp; omega))) ?_) | (with_reducible refine fro_set_of _ ?_))), ?_, ?_⟩
    · refine at4' (x := ⟨0, 0, 0, 0⟩) ?_ ?_ ?_ ?_ <;> (repeat (first | (with_reducible assumption) | (simp; done) | (with_reducible refine cell_drew_of ?_) | (with_reducible refine cell_drewN_of ?_) | (with_reducible refine cell_below_of (by with_reducible assumption) ?_) | ((with_reducible refine cell_new_of ?_ ?_) <;> (first | (with_reducible rfl) | (simp; done))) | ((with_reducible refine fro_new_of ?_) <;> (first | (with_reducible rfl) | (simp; done))) | (with_reducible refine cell_alloc_of _ ?_) | (with_reducible refine cell_set_of _ (by (first | exact Nat.le_refl _ | omega | (simp; done) | (simp; omega))) ?_) | (with_reducible refine fro_drew_of ?_) | (with_reducible refine fro_drewN_of ?_) | (with_reducible refine fro_below_of (by with_reducible assumption) (by (first | exact Nat.le_refl _ | omega | (simp; done) | (simp; omega))) ?_) | (with_reducible refine fro_alloc_of _ (by (first | exact Nat.le_refl _ | omega | (simp; done) | (simp; omega))) ?_) | (with_reducible refine fro_set_of _ ?_)))
    · intro k hk; (repeat (first | (with_reducible assumption) | (simp; done) | (with_reducible refine cell_drew_of ?_) | (with_reducible refine cell_drewN_of ?_) | (with_reducible refine cell_below_of (by with_reducible assumption) ?_) | ((with_reducible refine cell_new_of ?_ ?_) <;> (first | (with_reducible rfl) | (simp; done))) | ((with_reducible refine fro_new_of ?_) <;> (first | (with_reducible rfl) | (simp; done))) | (with_reducible refine cell_alloc_of _ ?_) | (with_reducible refine cell_set_of _ (by (first | exact Nat.le_refl _ | omega | (simp; done) | (simp; omega))) ?_) | (with_reducible refine fro_drew_of ?_) | (with_reducible refine fro_drewN_of ?_) | (with_reducible refine fro_below_of (by with_reducible assumption) (by (first | exact Nat.le_refl _ | omega | (simp; done) | (simp; omega))) ?_) | (with_reducible refine fro_alloc_of _ (by (first | exact Nat.le_refl _ | omega | (simp; done) | (simp; omega))) ?_) | (with_reducible refine fro_set_of _ ?_)))
  have hB : Below W.heap.size W W3 := by subst hW3; exact (by repeat (first | (with_reducible exact Below.refl _ _) | (with_reducible refine Below.drew ?_) | (with_reducible refine below_drewN ?_ _) | ((with_reducible refine below_alloc ?_ ?_ _); · (first | exact Nat.le_refl _ | omega | (simp; done) | (simp; omega) | (simp at *; omega))) | ((with_reducible refine below_set ?_ ?_ _); · (first | exact Nat.le_refl _ | omega | (simp; done) | (simp; omega) | (simp at *; omega))) | ((with_reducible refine below_via (by with_reducible assumption) ?_ ?_); · (first | exact Nat.le_refl _ | omega | (simp; done) | (simp; omega) | (simp at *; omega)))))
  have H := Lib.hid (fill_in l left h6 J Jx W.heap.size hJ W.heap.size (W.heap.size + 1) lb (W.heap.size + 1 + 1) (Nat.le_refl _) (by omega) (by omega) (by omega) (by omega) hKl (bagsOf left) hY 4 0 rfl bagZ [] W3 hF
    (fun k _ h4 => by match k, h4 with | 0, _ => rfl | 1, _ => rfl | 2, _ => rfl | 3, _ => rfl) (hJ _ _ _ h0 hB) (List.prefix_refl _))
  have HW := Lib.hid hW3
  clear hF hB hJ hJx hKl hY h0 hW3 h6
  refine callsIn_of_wp Tryz.func88 rfl trivial ?_ rfl
  simp only [Tryz.ntmps88, List.size_toArray, List.length_cons, List.length_nil, Nat.reduceAdd, Nat.reduceSub, Array.replicate_succ, Array.replicate_zero, List.push_toArray, List.append_toArray, List.nil_append, List.cons_append]
  gi_wp2_with fail
  rw [← HW.out]
  refine ⟨trivial, rfl, H.out.mono ?_⟩
  rintro e W' (⟨rfl, hF', hJ'⟩ | ⟨rfl, q, hq, hx'⟩)
  · gi_wp2_with fail
    go_end0
    exact ⟨⟨_, rfl⟩, .inl hJ'⟩
  · gi_wp2_with fail
    go_end0
    exact ⟨⟨_, rfl⟩, .inr ⟨q, hq, hx'⟩⟩

set_option maxRecDepth 100000 in
set_option maxHeartbeats 1000000 in
/-- lot.within -/
theorem within_any (left : Bag) (W : World) : Calls Tryz.prog 57 #[bagV left] W fun e W' => e = .returned (.func (.func 88) #[] #[.pointer (some ⟨W.heap.size, 0, none⟩)]) ∧ BagC W' W.heap.size left ∧ W'.heap.size = W.heap.size + 1 ∧ Below W.heap.size W W' := by
  go_enter Tryz.func57, Tryz.ntmps57
  go_wp2_with fail
  go_ret
  refine ⟨rfl, ?_, by simp, (by repeat (first | (with_reducible exact Below.refl _ _) | (with_reducible refine Below.drew ?_) | (with_reducible refine below_drewN ?_ _) | ((with_reducible refine below_alloc ?_ ?_ _); · (first | exact Nat.le_refl _ | omega | (simp; done) | (simp; omega) | (simp at *; omega))) | ((with_reducible refine below_set ?_ ?_ _); · (first | exact Nat.le_refl _ | omega | (simp; done) | (simp; omega) | (simp at *; omega))) | ((with_reducible refine below_via (by with_reducible assumption) ?_ ?_); · (first | exact Nat.le_refl _ | omega | (simp; done) | (simp; omega) | (simp at *; omega)))))⟩
  unfold BagC
  refine at4' ?_ ?_ ?_ ?_ <;> (repeat (first | (with_reducible assumption) | (simp; done) | (with_reducible refine cell_drew_of ?_) | (with_reducible refine cell_drewN_of ?_) | (with_reducible refine cell_below_of (by with_reducible assumption) ?_) | ((with_reducible refine cell_new_of ?_ ?_) <;> (first | (with_reducible rfl) | (simp; done))) | ((with_reducible refine fro_new_of ?_) <;> (first | (with_reducible rfl) | (simp; done))) | (with_reducible refine cell_alloc_of _ ?_) | (with_reducible refine cell_set_of _ (by (first | exact Nat.le_refl _ | omega | (simp; done) | (simp; omega))) ?_) | (with_reducible refine fro_drew_of ?_) | (with_reducible refine fro_drewN_of ?_) | (with_reducible refine fro_below_of (by with_reducible assumption) (by (first | exact Nat.le_refl _ | omega | (simp; done) | (simp; omega))) ?_) | (with_reducible refine fro_alloc_of _ (by (first | exact Nat.le_refl _ | omega | (simp; done) | (simp; omega))) ?_) | (with_reducible refine fro_set_of _ ?_)))

/-- 'for b := range within(left)', b boxed -/
theorem wp_within {g : Operand} {ps : Array Tmp} {assign body : Code} {Q : Exit → Act → World → Prop} {a : Act} {w : World} (left : Bag) (h6 : ∀ k, k < 4 → 0 ≤ left.at k ∧ left.at k ≤ 6) (lb : Nat)
    (hg : a.eval g = .func (.func 88) #[] #[.pointer (some ⟨lb, 0, none⟩)]) (hps : ps.size = 1)
    (I : List Bag → World → Prop) (Ix : Code → List Bag → World → Prop) (hI : AbBelow w.heap.size I) (hIx : ∀ c, AbBelow w.heap.size (Ix c)) (hK : ∀ pre W, I pre W → BagC W lb left) (h0 : I [] w)
    (fr : Bag → Nat → Act)
    (hassign : ∀ (l : Nat) (pre : List Bag) (x : Bag) (W : World) (K : Act → World → Prop), I pre W → (∀ Bx W', Bx = W.heap.size → Below W.heap.size W W' → BagC W' Bx x → K (fr x Bx) W') →
      assign.wpIn (Fence.wide.inRound l) 0 Tryz.prog (Exit.then K (fun _ _ _ => False)) { tmps := (ps.zip #[bagV x]).foldl (fun t (p, v) => t.setIfInBounds p v) a.tmps, defers := [] } W)
    (hbody : ∀ (l : Nat) (pre : List Bag) (x : Bag) (Bx : Nat) (W : World), I pre W → w.heap.size ≤ Bx → BagC W Bx x → pre ++ [x] <+: bagsOf left → w.heap.size < W.heap.size → body.wpIn (Fence.wide.inRound l) 0 Tryz.prog (newPost w.heap.size I Ix (pre ++ [x]) W) (fr x Bx) W)
    (hdone : ∀ (D : Nat) (W : World), w.heap.size ≤ D → I (bagsOf left) W → W.heap[D]? = some (.deferred (some [])) → Q .normal { a with defers := { target := .collected D, args := #[] } :: a.defers } W)
    (hstop : ∀ (D : Nat) (c : Code) (pre : List Bag) (W : World), w.heap.size ≤ D → pre <+: bagsOf left → Ix c pre W → W.heap[D]? = some (.deferred (some [])) → c.wp Tryz.prog Q { a with defers := { target := .collected D, args := #[] } :: a.defers } W) :
    (Code.rangeFunc g ps assign body).wp Tryz.prog Q a w :=
  wp_rangeFunc_new (gf := 88) (lb := #[.pointer (some ⟨lb, 0, none⟩)]) hg (enters_of Tryz.func88 (by kernel_rfl) rfl) (within_seq lb left h6) (fun _ => by rw [hps]; rfl) I Ix hI hIx hK h0
    (fun x a' Wx => ∃ Bx : Nat, w.heap.size ≤ Bx ∧ BagC Wx Bx x ∧ a' = fr x Bx)
    (fun x a' A l r r' hl ⟨Bx, hB, hx, e⟩ => ⟨Bx, hB, hx.same (World.putObj_heap_other (fun e => by subst e; obtain ⟨o, ho, hc⟩ := cells_of_cell (hx 0 (by omega)); dsimp only at ho; rw [hl] at ho; cases ho; cases hc)), e⟩)
    (fun l pre x W K hi hlt hk => hassign l pre x W K hi (fun Bx W' hB hb hx => hk _ _ (.below hb) (hI _ _ _ hi (hb.mono (by omega))) ⟨Bx, by omega, hx, rfl⟩))
    (fun l pre x a' W hi ⟨Bx, hB, hx, e⟩ hp hlt => by subst e; exact hbody l pre x Bx W hi hB hx hp hlt) hdone hstop
end Go.Proofs.YtmbkngfcbgbeiaaGreat
