/- bin.Clash. -/
import Derived.Test.YtnnikeolgknfoaaGreatC2
import Derived.Carry
set_option linter.unusedSimpArgs false
set_option linter.unusedVariables false
namespace Go.Proofs.YtnnikeolgknfoaaGreat
open Go.RowKit Go.Shelf

/-- what is left out, and what was told, after so many weighings -/
def Rw.clN (r : Rw) : Nat → (Nat → Bool) × List Nat
  | 0 => (fun _ => false, [])
  | k + 1 => if (r.wo (fun j => if j = k then true else (r.clN k).1 j)).torn = true then (fun j => if j = k then true else (r.clN k).1 j, (r.clN k).2) else (fun j => if j = k then false else if j = k then true else (r.clN k).1 j, (r.clN k).2 ++ [k])
def natV (l : List Nat) : List Value := l.map (fun (k : Nat) => .int .i64 (k : Int))
theorem natV_snoc (l : List Nat) (k : Nat) : natV (l ++ [k]) = natV l ++ [.int .i64 (k : Int)] := by simp [natV]
theorem natV_num (l : List Nat) : natV l = numCells (fun k => ((l.getD k 0 : Nat) : Int)) l.length := by
  apply List.ext_getElem?
  intro i
  by_cases h : i < l.length
  · rw [numCells_get _ h, natV, List.getElem?_map, List.getElem?_eq_getElem h, List.getD_eq_getElem?_getD, List.getElem?_eq_getElem h]
    rfl
  · rw [List.getElem?_eq_none (by simp [natV]; omega), List.getElem?_eq_none (by rw [numCells_len]; omega)]
theorem Rw.clN_len (r : Rw) : ∀ k, (r.clN k).2.length ≤ k
  | 0 => Nat.le_refl _
  | k + 1 => by
    have := Rw.clN_len r k
    unfold Rw.clN
    split
    · dsimp only; omega
    · simp; omega
def Rw.clashErr (r : Rw) : Int := if r.check ≠ 0 then r.check else if r.torn = true then 0 else 1
def Rw.clashL (r : Rw) : List Nat := (r.clN r.m).2
/-- a list of numbers of one's own, or an error -/
def NatPost (l : List Nat) (er : Int) (W : World) (e : Ending) (W' : World) : Prop :=
  (er = 0 ∧ ∃ v, e = Ending.returned (.tuple #[v, .int .i64 0]) ∧ W'.ownsRow W.heap.size 3 1 v l.length (natV l) ∧ Below W.heap.size W W') ∨ (er ≠ 0 ∧ e = Ending.returned (.tuple #[.slice none 0 0, .int .i64 er]) ∧ Below W.heap.size W W')

set_option maxRecDepth 100000 in
set_option maxHeartbeats 4000000 in
theorem Clash_any (r : Rw) (bA dA vA : Option Addr) (bc dc vc : Nat) (W : World) (hrow : RwRow W W.heap.size r bA bc dA dc vA vc) :
    Calls Tryz.prog 15 #[rwV bA r.n bc dA r.d dc vA r.m vc] W (NatPost r.clashL r.clashErr W) := by
  have H0 := Lib.hid hrow
  have hm1 := hrow.m1
  clear hrow
  obtain ⟨i0, hi, hz0, hz1, hz2⟩ := info_parts infoInt
  have hmm := @run_makeMap Tryz.prog
  go_enter Tryz.func15, Tryz.ntmps15
  go_wp2_with fail
  refine (check_any r bA dA vA bc dc vc _ ((H0.out.later (by repeat (first | (with_reducible first | exact Below.refl _ _ | assumption | refine Below.drew ?_) | ((with_reducible first | refine Lc ?_ ?_ _ | refine Ls ?_ ?_ _ | refine Lv (by assumption) ?_ ?_); · first | exact Nat.le_refl _ | omega | (dsimp only; omega) | (simp only [World.size_alloc, World.size_drew, World.heap_drewN]; omega) | (simp; omega))))).up (by first | exact Nat.le_refl _ | omega | (simp; done) | (simp; omega) | (simp at *; omega)) (by first | exact Nat.le_refl _ | omega | (simp; done) | (simp; omega) | (simp at *; omega)))).mono ?_
  rintro e w1 ⟨rfl, hb1⟩
  have HB1 := Lib.hid (show Below W.heap.size W w1 from (by repeat (first | (with_reducible first | exact Below.refl _ _ | refine Below.drew ?_ | refine below_drewN ?_ _) | ((with_reducible first | refine Lc ?_ ?_ _ | refine Ls ?_ ?_ _ | refine Lv (by assumption) ?_ ?_); · first | exact Nat.le_refl _ | omega | (simp; done) | (simp; omega) | (simp at *; omega)))))
  have hs1 := hb1.size
  simp only [World.size_alloc, World.size_drew] at hs1
  have c0 : w1.cell? ⟨W.heap.size, 0, none⟩ = some (.slice bA r.n bc) := Kb hb1 (by (repeat' refine And.intro ?_ ?_) <;> (repeat (first | with_reducible assumption | (simp; done) | (with_reducible first | refine Kd ?_ | refine Kn ?_ | refine Kb (by assumption) ?_) | ((with_reducible first | refine Kw ?_ ?_ | refine Fw ?_) <;> first | with_reducible rfl | (simp; done)) | (with_reducible first | refine Ka _ ?_ | refine Ks _ (by first | exact Nat.le_refl _ | omega | (simp; done) | (simp; omega)) ?_ | refine Fd ?_ | refine Fn ?_ | refine Fb (by assumption) (by first | exact Nat.le_refl _ | omega | (simp; done) | (simp; omega)) ?_ | refine Fa _ (by first | exact Nat.le_refl _ | omega | (simp; done) | (simp; omega)) ?_ | refine Fs _ ?_))))
  have c1 : w1.cell? ⟨W.heap.size, 1, none⟩ = some (.slice dA r.d dc) := Kb hb1 (by (repeat' refine And.intro ?_ ?_) <;> (repeat (first | with_reducible assumption | (simp; done) | (with_reducible first | refine Kd ?_ | refine Kn ?_ | refine Kb (by assumption) ?_) | ((with_reducible first | refine Kw ?_ ?_ | refine Fw ?_) <;> first | with_reducible rfl | (simp; done)) | (with_reducible first | refine Ka _ ?_ | refine Ks _ (by first | exact Nat.le_refl _ | omega | (simp; done) | (simp; omega)) ?_ | refine Fd ?_ | refine Fn ?_ | refine Fb (by assumption) (by first | exact Nat.le_refl _ | omega | (simp; done) | (simp; omega)) ?_ | refine Fa _ (by first | exact Nat.le_refl _ | omega | (simp; done) | (simp; omega)) ?_ | refine Fs _ ?_))))
  have c2 : w1.cell? ⟨W.heap.size, 2, none⟩ = some (.slice vA r.m vc) := Kb hb1 (by (repeat' refine And.intro ?_ ?_) <;> (repeat (first | with_reducible assumption | (simp; done) | (with_reducible first | refine Kd ?_ | refine Kn ?_ | refine Kb (by assumption) ?_) | ((with_reducible first | refine Kw ?_ ?_ | refine Fw ?_) <;> first | with_reducible rfl | (simp; done)) | (with_reducible first | refine Ka _ ?_ | refine Ks _ (by first | exact Nat.le_refl _ | omega | (simp; done) | (simp; omega)) ?_ | refine Fd ?_ | refine Fn ?_ | refine Fb (by assumption) (by first | exact Nat.le_refl _ | omega | (simp; done) | (simp; omega)) ?_ | refine Fa _ (by first | exact Nat.le_refl _ | omega | (simp; done) | (simp; omega)) ?_ | refine Fs _ ?_))))
  clear hb1
  by_cases h0 : r.check = 0
  · rw [h0]
    have HE0 := Lib.hid h0
    clear h0
    go_wp2_with fail
    refine (clashes_any r bA dA vA bc dc vc _ ((H0.out.later (HB1.out.trans ((show Below w1.heap.size w1 _ from (by repeat (first | (with_reducible first | exact Below.refl _ _ | assumption | refine Below.drew ?_) | ((with_reducible first | refine Lc ?_ ?_ _ | refine Ls ?_ ?_ _ | refine Lv (by assumption) ?_ ?_); · first | exact Nat.le_refl _ | omega | (dsimp only; omega) | (simp only [World.size_alloc, World.size_drew, World.heap_drewN]; omega) | (simp; omega))))).mono HB1.out.size))).up (by have := HB1.out.size; first | exact Nat.le_refl _ | omega | (simp; done) | (simp; omega) | (simp at *; omega)) (by first | exact Nat.le_refl _ | omega | (simp; done) | (simp; omega) | (simp at *; omega)))).mono ?_
    rintro e w2 ⟨rfl, hb2⟩
    have HB2 := Lib.hid (HB1.out.trans ((show Below w1.heap.size w1 w2 from (by repeat (first | (with_reducible first | exact Below.refl _ _ | assumption | refine Below.drew ?_) | ((with_reducible first | refine Lc ?_ ?_ _ | refine Ls ?_ ?_ _ | refine Lv (by assumption) ?_ ?_); · first | exact Nat.le_refl _ | omega | (dsimp only; omega) | (simp only [World.size_alloc, World.size_drew, World.heap_drewN]; omega) | (simp; omega))))).mono HB1.out.size))
    have hs2 : W.heap.size + 1 ≤ w2.heap.size := Nat.le_trans hs1 (show Below w1.heap.size w1 w2 from (by repeat (first | (with_reducible first | exact Below.refl _ _ | assumption | refine Below.drew ?_) | ((with_reducible first | refine Lc ?_ ?_ _ | refine Ls ?_ ?_ _ | refine Lv (by assumption) ?_ ?_); · first | exact Nat.le_refl _ | omega | (dsimp only; omega) | (simp only [World.size_alloc, World.size_drew, World.heap_drewN]; omega) | (simp; omega))))).size
    have d0 := Kb hb2 c0
    have d1 := Kb hb2 c1
    have d2 := Kb hb2 c2
    clear c0 c1 c2 hb2 HB1
    cases ht : (r.fitErr == 7) with
    | false =>
      have HE : Hid (r.clashErr = 1) := Lib.hid (by unfold Rw.clashErr Rw.torn; rw [if_neg (by simpa using HE0.out), ht]; rfl)
      go_wp2_with fail
      go_ret2
      exact .inr ⟨by rw [HE.out]; decide, by rw [HE.out]; rfl, HB2.out⟩
    | true =>
      have HE : Hid (r.clashErr = 0) := Lib.hid (by unfold Rw.clashErr Rw.torn; rw [if_neg (by simpa using HE0.out), ht]; rfl)
      have HD := Lib.hid (And.intro d0 (And.intro d1 d2))
      clear ht d0 d1
      go_upto_region 7 with fail
      refine wp_world (fun W3 => LeftAt W3 w2.heap.size 0 (fun _ => false) ∧ Below w2.heap.size w2 W3 ∧ w2.heap.size + 1 ≤ W3.heap.size) ⟨LeftAt.made _, (by repeat (first | (with_reducible first | exact Below.refl _ _ | assumption | refine Below.drew ?_) | ((with_reducible first | refine Lc ?_ ?_ _ | refine Ls ?_ ?_ _ | refine Lv (by assumption) ?_ ?_); · first | exact Nat.le_refl _ | omega | (dsimp only; omega) | (simp only [World.size_alloc, World.size_drew, World.heap_drewN]; omega) | (simp; omega)))), by simp⟩ ?_
      rintro w3 ⟨hl3, hb3, hs3⟩
      have HL3 := Lib.hid hl3
      have HB3 := Lib.hid hb3
      have d2 := Kb hb3 d2
      clear hl3 hb3
      go_wp2_with fail
      clear d2
      go_loopw [6, 20] (fun l i wr => ∃ k : Nat, k ≤ r.m ∧ i = .int .i64 k ∧ Hid (wr.ownsRow (w2.heap.size + 1) 3 1 l (r.clN k).2.length (natV (r.clN k).2)) ∧ Hid (LeftAt wr w2.heap.size (2 * k) (r.clN k).1) ∧ Hid (Below w2.heap.size w2 wr) ∧ w2.heap.size + 1 ≤ wr.heap.size) (fun _ i _ => r.m - (intOf i).toNat)
      case atStart => exact ⟨0, Nat.zero_le _, rfl, Lib.hid (World.ownsRow_nil _ _ _ _), HL3, HB3, hs3⟩
      case round =>
        clear HL3 HB3
        obtain ⟨k, hk, rfl, HO, HL, HB, hsz⟩ := hrel
        obtain ⟨wo, rfl⟩ : ∃ wo, wo = wr := ⟨_, rfl⟩
        by_cases hlt : k < r.m
        · have hkn : (k : Int) < (r.m : Int) := by omega
          have hk0 : (0 : Int) ≤ (k : Int) := by omega
          have ek : IntKind.i64.wrap ((k : Int) + 1) = (k : Int) + 1 := IntWalk.i64_in _ (by omega)
          obtain ⟨w4, hrun, hl4, hg4⟩ := HL.out.put (x := k) (by omega) true (by omega)
          have hv1 := HO.out.lt
          have HO4 := Lib.hid (HO.out.kept hg4 (by
            cases hv : u6.ownBlock with
            | none => exact .inl rfl
            | some i => exact .inr (by have := (hv1 i hv).1; intro e; injection e with e; omega)))
          have HB4 : Hid (Below w2.heap.size w2 w4) := Lib.hid (HB.out.trans ⟨hg4.os, hg4.tape, hg4.output, hg4.size, fun i hi => hg4.block i (by omega) (fun e => by injection e with e; omega)⟩)
          have HL4 := Lib.hid hl4
          have hs4 := hg4.size
          obtain ⟨f, hf⟩ : ∃ f : Nat → Bool, f = fun y => if y = k then true else (r.clN k).1 y := ⟨_, rfl⟩
          rw [← hf] at HL4
          have HF := Lib.hid hf
          have d0 := Kb HB4.out HD.out.1
          have d1 := Kb HB4.out HD.out.2.1
          have d2 := Kb HB4.out HD.out.2.2
          clear hl4 hg4 hf
          go_wp2_with fail
          refine (without_any r f w2.heap.size (2 * k + 1) bA dA vA bc dc vc _ ((H0.out.later (HB2.out.trans (HB4.out.mono (by omega)))).up (by omega) (Nat.le_refl _)) HL4.out).mono ?_
          rintro e w5 ⟨A5, c5, rfl, hr5, hb5⟩
          have HR5 := Lib.hid hr5
          have HL5 := Lib.hid (HL4.out.later hb5)
          have HO5 := Lib.hid (owns_later HO4.out hb5)
          have HB5 := Lib.hid (HB4.out.trans (hb5.mono (by omega)))
          have hs5 := hb5.size
          clear hb5 hr5 d0 d1 d2 HO4 HL4 HB4 hrun
          go_wp2_with fail
          refine (clashes_any (r.wo f) bA dA A5 bc dc c5 _ HR5.out).mono ?_
          rintro e w6 ⟨rfl, hb6⟩
          have HL6 := Lib.hid (HL5.out.later hb6)
          have HO6 := Lib.hid (owns_later HO5.out hb6)
          have HB6 := Lib.hid (HB5.out.trans (hb6.mono (by omega)))
          have hs6 := hb6.size
          clear hb6 HL5 HO5 HB5 HR5
          have hN : r.clN (k + 1) = if (r.wo f).torn = true then (f, (r.clN k).2) else (fun j => if j = k then false else f j, (r.clN k).2 ++ [k]) := by rw [HF.out]; rfl
          cases ht : ((r.wo f).fitErr == 7) with
          | true =>
            have HN : Hid (r.clN (k + 1) = (f, (r.clN k).2)) := Lib.hid (by rw [hN]; exact if_pos ht)
            clear hN ht
            go_wp2_with fail
            refine ⟨?_, ?measure⟩
            case measure => simp [intOf]; omega
            exact ⟨k + 1, by omega, by go_num, by rw [HN.out]; exact HO6, by rw [HN.out]; exact Lib.hid (HL6.out.mono (by omega)), HB6, by omega⟩
          | false =>
            have HN : Hid (r.clN (k + 1) = (fun j => if j = k then false else f j, (r.clN k).2 ++ [k])) := Lib.hid (by rw [hN]; exact if_neg (by unfold Rw.torn; rw [ht]; decide))
            clear hN ht
            obtain ⟨w7, hrun7, hl7, hg7⟩ := HL6.out.put (x := k) (by omega) false (by omega)
            have HO7 := Lib.hid (HO6.out.kept hg7 (by
              cases hv : u6.ownBlock with
              | none => exact .inl rfl
              | some i => exact .inr (by have := (hv1 i hv).1; intro e; injection e with e; omega)))
            have HB7 : Hid (Below w2.heap.size w2 w7) := Lib.hid (HB6.out.trans ⟨hg7.os, hg7.tape, hg7.output, hg7.size, fun i hi => hg7.block i (by omega) (fun e => by injection e with e; omega)⟩)
            have HL7 := Lib.hid hl7
            have hs7 := hg7.size
            have hv7 := HO7.out.lt
            have hll := r.clN_len k
            clear hl7 hg7 HO6 HB6 HL6
            go_upto_region 15 with (at_builtin; refine wpList_append_lies _ rfl (.tmp 32) (.tmp 34) 31 rfl (w2.heap.size + 1) 3 i0 (.int .i64 0) 1 8 ints_under hi hz0 hz1 hz2 rfl (by decide) _ (r.clN k).2.length (natV (r.clN k).2) rfl (HO7.out.alloc _) ⟨w7.heap.size, 0, none⟩ 1 1 [.int .i64 (k : Int)] rfl rfl (new_cells (cs := [.int .i64 (k : Int)])) (by intro u hu; simp only [List.mem_cons, List.not_mem_nil, or_false] at hu; subst hu; rfl) (by omega) (by unfold maxLen; omega) (by omega) (by simp; omega) (w7.heap.size + 1) (by simp) ?_; intro g cap w8 hown8 hgr8 hat8 hlt8)
            have hz8 := hgr8.size
            simp only [World.size_alloc] at hz8
            have hk8 : ∀ i, i ≤ w2.heap.size → w8.heap[i]? = w7.heap[i]? := fun i hi => (hgr8.block i (by simp; omega) (fun e => by have := (hv7 i e.symm).1; omega)).trans (Below.heap_alloc _ _ _ (by omega))
            have HO8 := Lib.hid hown8
            have HL8 := Lib.hid (HL7.out.same (hk8 _ (Nat.le_refl _)))
            have HB8 : Hid (Below w2.heap.size w2 w8) := Lib.hid (HB7.out.trans ⟨hgr8.os, hgr8.tape, hgr8.output, by omega, fun i hi => hk8 i (by omega)⟩)
            clear hown8 hgr8 hat8 hlt8 hk8 hrun7
            go_wp2_with fail
            refine ⟨?_, ?measure⟩
            case measure => simp [intOf]; omega
            exact ⟨k + 1, by omega, by go_num, by rw [HN.out, natV_snoc, List.length_append]; exact HO8, by rw [HN.out]; exact Lib.hid (HL8.out.mono (by omega)), HB8, by omega⟩
        · obtain rfl : k = r.m := by omega
          have hge : ¬ (r.m : Int) < (r.m : Int) := by omega
          go_wp2_with fail
          go_ret2
          exact .inl ⟨HE.out, _, rfl, owns_low (by omega) HO.out, HB2.out.trans (HB.out.mono (by omega))⟩
  · have hne : (r.check != 0) = true := by simpa using h0
    have HE : Hid (r.clashErr = r.check) := Lib.hid (by unfold Rw.clashErr; rw [if_pos h0])
    have HE0 := Lib.hid h0
    clear h0
    go_wp2_with fail
    go_ret2
    exact .inr ⟨by rw [HE.out]; exact HE0.out, by rw [HE.out]; rfl, HB1.out⟩
end Go.Proofs.YtnnikeolgknfoaaGreat
