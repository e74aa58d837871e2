/- The hands' numbers; the rule. -/
import Derived.Test.YtmbkngfcbgbeiaaGreatEe
set_option linter.unusedSimpArgs false
set_option linter.unusedVariables false
namespace Go.Proofs.YtmbkngfcbgbeiaaGreat
open Go.RowKit Go.Shelf

set_option maxRecDepth 100000 in
set_option maxHeartbeats 2000000 in
theorem hands_any (B db mb n : Nat) (tA hA : Option Addr) (nt tc nh hc : Nat) (T : Nat → Nat → Int) (G : Nat → HndA) (hh : nh ≤ 5) (W : World) (hd : DkAt W B db mb n tA nt tc T hA nh hc G) :
    Calls Tryz.prog 33 #[.pointer (some ⟨db, 0, none⟩)] W fun e W' => ∃ A c, e = .returned (.slice A nh c) ∧ OwnInt W' W.heap.size A nh (fun i => (i : Int)) ∧ nh ≤ c ∧ Below W.heap.size W W' := by
  have c1 := hd.c1
  obtain ⟨i0, hi, hz0, hz1, hz2⟩ := info_parts infoInt
  clear hd
  go_enter Tryz.func33, Tryz.ntmps33
  go_wp2_with fail
  go_loopw [3, 11] (fun v i wr => ∃ k : Nat, k ≤ nh ∧ i = .int .i64 k ∧ Hid (wr.ownsRow W.heap.size 3 1 v k (numCells (fun i => (i : Int)) k)) ∧ Hid (Below W.heap.size W wr)) (fun _ i _ => nh - (intOf i).toNat)
  case atStart => exact ⟨0, Nat.zero_le _, rfl, Lib.hid (World.ownsRow_nil _ _ _ _), Lib.hid (Below.refl _ _)⟩
  case round =>
    clear c1
    obtain ⟨k, hk, rfl, hown, HB⟩ := hrel
    have hsw := HB.out.size
    by_cases hlt : k < nh
    · have hki : (k : Int) < (nh : Int) := by omega
      have ek : IntKind.i64.wrap ((k : Int) + 1) = (k : Int) + 1 := IntWalk.i64_in _ (by omega)
      have hv1 := hown.out.lt
      go_wp2_with (at_builtin; refine wpList_append_lies _ rfl (.tmp 14) (.tmp 16) 38 rfl W.heap.size 3 i0 (.int .i64 0) 1 8 ints_under hi hz0 hz1 hz2 rfl (by decide) u3 k (numCells (fun i => (i : Int)) k) rfl (hown.out.alloc _) ⟨wr.heap.size, 0, none⟩ 1 1 [.int .i64 (k : Int)] rfl rfl (new_cells (cs := [.int .i64 (k : Int)])) (by intro u hu; simp only [List.mem_cons, List.not_mem_nil, or_false] at hu; subst hu; rfl) (by omega) (by unfold maxLen; omega) (by omega) (by simp; omega) (wr.heap.size + 1) (by simp) ?_; intro g cap w6 hown6 hgr6 hat6 hlt6)
      have HO6 : Hid (w6.ownsRow W.heap.size 3 1 (.slice (some ⟨g, 0, none⟩) (k + 1) cap) (k + 1) (numCells (fun i => (i : Int)) (k + 1))) := Lib.hid (by rw [numCells_succ]; exact hown6)
      have HB6 : Hid (Below W.heap.size W w6) := Lib.hid (HB.out.trans (Below.grown (show Below W.heap.size wr _ from (by repeat (first | (with_reducible exact Below.refl _ _) | (with_reducible assumption) | (with_reducible refine Below.drew ?_) | ((with_reducible refine below_alloc ?_ ?_ _); (· (first | exact Nat.le_refl _ | omega | (dsimp only; omega) | (simp only [World.size_alloc, World.size_drew, World.heap_drewN]; omega) | (simp; omega)))) | ((with_reducible refine below_set ?_ ?_ _); (· (first | exact Nat.le_refl _ | omega | (dsimp only; omega) | (simp only [World.size_alloc, World.size_drew, World.heap_drewN]; omega) | (simp; omega)))) | ((with_reducible refine below_via (by with_reducible assumption) ?_ ?_); (· (first | exact Nat.le_refl _ | omega | (dsimp only; omega) | (simp only [World.size_alloc, World.size_drew, World.heap_drewN]; omega) | (simp; omega))))))) hgr6 (by simp; omega) (fun k hk => (hv1 k hk).1)))
      clear hown6 hgr6 hat6 hlt6
      go_wp2_with fail
      go_roundw
      case rel => exact ⟨k + 1, by omega, by go_num, HO6, HB6⟩
      case measure => simp [intOf]; omega
    · obtain rfl : k = nh := by omega
      have hge : ¬ (k : Int) < (k : Int) := by omega
      obtain ⟨A, c, rfl, hr, hcl⟩ := ownInt_of hown.out
      have HR := Lib.hid hr
      clear hr
      go_wp2_with fail
      go_ret
      exact ⟨A, c, rfl, HR.out, hcl, HB.out⟩

theorem infoTr : (Tryz.prog.info? 60).map (fun i => (i.zero, i.size, i.bytes)) = some (some (.agg #[.int .i64 0, .int .i64 0, .int .i64 0, .int .i64 0, .int .i64 0]), 5, 40) := by kernel_rfl
theorem trays_under : Tryz.prog.underlying 23 = some (.slice 60) := by kernel_rfl
theorem mkTr (n : Nat) (hn : n ≤ 1000) (w : World) : (Instr.makeSlice 23 (.int .i64 (n : Int)) (.int .i64 (n : Int))).run Tryz.prog w = .ok (.slice (some ⟨w.heap.size, 0, none⟩) n n) (w.alloc (.cells (madeCells (Value.cells (.agg #[.int .i64 0, .int .i64 0, .int .i64 0, .int .i64 0, .int .i64 0])) (n * 5)) 60)) := by
  obtain ⟨i0, hi, hz0, hz1, hz2⟩ := info_parts infoTr
  have h := run_make (P := Tryz.prog) w 23 60 i0 _ trays_under hi hz0 .i64 .i64 (n : Int) (n : Int) (by omega) (Int.le_refl _) (by rw [hz2]; omega) (by omega)
  rw [hz1, Int.toNat_natCast] at h
  exact h
/-- the rule at work -/
structure RuAt (w : World) (B db mb n lo lb hk : Nat) (tA : Option Addr) (nt tc : Nat) (T : Nat → Nat → Int) (hA : Option Addr) (nh hc : Nat) (G : Nat → HndA) (oA : Option Addr) (L H : Nat → Nat → Int) : Prop where
  d : DkAt w B db mb n tA nt tc T hA nh hc G
  l : OwnTr w lb nt L
  h : OwnTr w hk nh H
  o : IntRow w lo oA nh (fun i => (i : Int))
  e : lb ≠ hk
  a : lo ≤ lb ∧ lo ≤ hk
  b : db < lo ∧ mb < lo ∧ B ≤ lo
  f : ∀ c, oA = some c → 0 < nh → c.block ≠ mb
  g : lb < w.heap.size ∧ hk < w.heap.size
theorem RuAt.gr {w w' : World} {B db mb n n' lo lb hk : Nat} {tA : Option Addr} {nt tc : Nat} {T : Nat → Nat → Int} {hA : Option Addr} {nh hc : Nat} {G : Nat → HndA} {oA : Option Addr} {L H : Nat → Nat → Int} (h : RuAt w B db mb n lo lb hk tA nt tc T hA nh hc G oA L H) (hg : w.grownBy w' (some mb)) (hd : DkAt w' B db mb n' tA nt tc T hA nh hc G) : RuAt w' B db mb n' lo lb hk tA nt tc T hA nh hc G oA L H := by
  have ha := h.a
  have hb := h.b
  have hgs := h.g
  have hs := hg.size
  refine ⟨hd, h.l.same (hg.block _ hgs.1 (fun e => by injection e with e; omega)), h.h.same (hg.block _ hgs.2 (fun e => by injection e with e; omega)), fun k hk => ?_, h.e, ha, hb, h.f, by omega, by omega⟩
  obtain ⟨b, o, hA, hl, hc⟩ := h.o k hk
  exact ⟨b, o, hA, hl, cell_same (hg.block _ (World.block_lt_of_cell? w _ hc) (fun e => by injection e with e; exact h.f _ hA (by omega) e)) hc⟩
theorem RuAt.later {w w' : World} {B db mb n lo lb hk : Nat} {tA : Option Addr} {nt tc : Nat} {T : Nat → Nat → Int} {hA : Option Addr} {nh hc : Nat} {G : Nat → HndA} {oA : Option Addr} {L H : Nat → Nat → Int} (h : RuAt w B db mb n lo lb hk tA nt tc T hA nh hc G oA L H) (hb : Below w.heap.size w w') : RuAt w' B db mb n lo lb hk tA nt tc T hA nh hc G oA L H :=
  h.gr ⟨hb.os, hb.tape, hb.output, hb.size, fun k hk _ => hb.block k hk⟩ (h.d.later hb)
theorem RuAt.put {w : World} {B db mb n lo lb hk : Nat} {tA : Option Addr} {nt tc : Nat} {T : Nat → Nat → Int} {hA : Option Addr} {nh hc : Nat} {G : Nat → HndA} {oA : Option Addr} {L H : Nat → Nat → Int} (h : RuAt w B db mb n lo lb hk tA nt tc T hA nh hc G oA L H) {t k m : Nat} (ht : t < nt) (hk' : k < nh) (hm : m < 5) (u v : Int) :
    RuAt ((w.setCell ⟨lb, t * 5 + m, none⟩ (.int .i64 u)).setCell ⟨hk, k * 5 + m, none⟩ (.int .i64 v)) B db mb n lo lb hk tA nt tc T hA nh hc G oA (fun i j => if i = t ∧ j = m then u else L i j) (fun i j => if i = k ∧ j = m then v else H i j) := by
  have ha := h.a
  have hb := h.b
  have he := h.e
  have hh : ∀ i, i ≠ lb → i ≠ hk → ((w.setCell ⟨lb, t * 5 + m, none⟩ (.int .i64 u)).setCell ⟨hk, k * 5 + m, none⟩ (.int .i64 v)).heap[i]? = w.heap[i]? := fun i a b => (set_heap _ b).trans (set_heap _ a)
  have hbl : Below B w ((w.setCell ⟨lb, t * 5 + m, none⟩ (.int .i64 u)).setCell ⟨hk, k * 5 + m, none⟩ (.int .i64 v)) := ((Below.refl _ _).setCell (by dsimp only; omega) _).setCell (by dsimp only; omega) _
  refine ⟨h.d.keep (fun b _ hb' => hh b ?_ ?_) hbl, (h.l.put ht hm u).same (set_heap _ he), (h.h.same (w' := w.setCell ⟨lb, t * 5 + m, none⟩ (.int .i64 u)) (set_heap _ (Ne.symm he))).put hk' hm v, fun j hj => ?_, he, ha, hb, h.f, by have := h.g; simp [World.setCell]; omega⟩
  · rcases hb' with h1 | h1 | h1 <;> omega
  · rcases hb' with h1 | h1 | h1 <;> omega
  · obtain ⟨b, o, e, hl, hc⟩ := h.o j hj
    exact ⟨b, o, e, hl, cell_same (hh b (by omega) (by omega)) hc⟩
theorem RuAt.congr {w : World} {B db mb n lo lb hk : Nat} {tA : Option Addr} {nt tc : Nat} {T : Nat → Nat → Int} {hA : Option Addr} {nh hc : Nat} {G : Nat → HndA} {oA : Option Addr} {L H : Nat → Nat → Int} {L' H' : Nat → Nat → Int} (h : RuAt w B db mb n lo lb hk tA nt tc T hA nh hc G oA L H) (e1 : ∀ i j, i < nt → j < 5 → L i j = L' i j) (e2 : ∀ i j, i < nh → j < 5 → H i j = H' i j) : RuAt w B db mb n lo lb hk tA nt tc T hA nh hc G oA L' H' :=
  ⟨h.d, fun i hi j hj => by rw [← e1 i j hi hj]; exact h.l i hi j hj, fun i hi j hj => by rw [← e2 i j hi hj]; exact h.h i hi j hj, h.o, h.e, h.a, h.b, h.f, h.g⟩
/-- a hand without force takes no more -/
theorem take_stop {h : Hnd} {f : Int} {L H : Nat → Int} {c d : Int} (hf : 0 ≤ f) (hL : rowOk c L) (hH : rowOk d H) {m : Nat} (h0 : (h.take f L H m).1 = 0) : ∀ r, m + r ≤ 5 → (h.take f L H (m + r)).1 = 0 ∧ ∀ k, k < 5 → (h.take f L H (m + r)).2.1 k = (h.take f L H m).2.1 k ∧ (h.take f L H (m + r)).2.2 k = (h.take f L H m).2.2 k
  | 0, _ => ⟨h0, fun k _ => ⟨rfl, rfl⟩⟩
  | r + 1, hr => by
    obtain ⟨i1, i2⟩ := take_stop hf hL hH h0 r (by omega)
    have hb := (Hnd.take_bd (h := h) hf hL hH (m + r) (by omega)).2.1 (m + r) (by omega)
    have e : m + (r + 1) = (m + r) + 1 := by omega
    rw [e]
    have ht : h.take f L H (m + r + 1) = if h.tk (m + r) = false then h.take f L H (m + r) else
        ((h.take f L H (m + r)).1 - min (h.take f L H (m + r)).1 ((h.take f L H (m + r)).2.1 (m + r)),
         (fun k => if k = m + r then (h.take f L H (m + r)).2.1 (m + r) - min (h.take f L H (m + r)).1 ((h.take f L H (m + r)).2.1 (m + r)) else (h.take f L H (m + r)).2.1 k),
         (fun k => if k = m + r then (h.take f L H (m + r)).2.2 (m + r) + min (h.take f L H (m + r)).1 ((h.take f L H (m + r)).2.1 (m + r)) else (h.take f L H (m + r)).2.2 k)) := rfl
    rw [ht]
    clear ht
    generalize h.take f L H (m + r) = A at *
    generalize h.take f L H m = B at *
    by_cases hk : h.tk (m + r) = false
    · rw [if_pos hk]
      exact ⟨i1, i2⟩
    · rw [if_neg hk]
      have hz : min A.1 (A.2.1 (m + r)) = 0 := by omega
      refine ⟨by show A.1 - min A.1 (A.2.1 (m + r)) = 0; omega, fun k hk => ⟨?_, ?_⟩⟩
      · show (if k = m + r then A.2.1 (m + r) - min A.1 (A.2.1 (m + r)) else A.2.1 k) = B.2.1 k
        by_cases e : k = m + r
        · rw [if_pos e, hz, Int.sub_zero, ← e]
          exact (i2 _ hk).1
        · rw [if_neg e]
          exact (i2 k hk).1
      · show (if k = m + r then A.2.2 (m + r) + min A.1 (A.2.1 (m + r)) else A.2.2 k) = B.2.2 k
        by_cases e : k = m + r
        · rw [if_pos e, hz, Int.add_zero, ← e]
          exact (i2 _ hk).2
        · rw [if_neg e]
          exact (i2 k hk).2
end Go.Proofs.YtmbkngfcbgbeiaaGreat
