/- bin.Fewest. -/
import Derived.Test.YtnnikeolgknfoaaGreatC4
set_option linter.unusedSimpArgs false
set_option linter.unusedVariables false
namespace Go.Proofs.YtnnikeolgknfoaaGreat
open Go.RowKit Go.Shelf

/-- the numbers below k in a set -/
def pickL (s : Nat) : Nat → List Nat
  | 0 => []
  | k + 1 => if s.testBit k = true then pickL s k ++ [k] else pickL s k
def pickF (s k : Nat) (y : Nat) : Bool := decide (y < k) && s.testBit y
theorem pickL_len (s : Nat) : ∀ k, (pickL s k).length ≤ k
  | 0 => Nat.le_refl _
  | k + 1 => by
    have := pickL_len s k
    unfold pickL
    split
    · simp; omega
    · omega
theorem pickF_yes {s k : Nat} (h : s.testBit k = true) : (fun y => if y = k then true else pickF s k y) = pickF s (k + 1) := by
  funext y
  unfold pickF
  by_cases e : y = k
  · subst e; simp [h]
  · rw [if_neg e]
    congr 1
    rw [Bool.eq_iff_iff]; simp; omega
theorem pickF_no {s k : Nat} (h : s.testBit k = false) : pickF s k = pickF s (k + 1) := by
  funext y
  unfold pickF
  by_cases e : y = k
  · subst e; simp [h]
  · congr 1
    rw [Bool.eq_iff_iff]; simp; omega
def numOf (l : List Nat) (k : Nat) : Int := ((l.getD k 0 : Nat) : Int)
/-- a list is left for one that was found -/
def worse (l o : List Nat) : Bool := decide (o.length < l.length) || (decide (l.length = o.length) && decide (0 ≤ cmpN (numOf l) (numOf o) l.length))
/-- the best of so many sets -/
def Rw.fwN (r : Rw) : Nat → Option (List Nat)
  | 0 => none
  | s + 1 => match r.fwN s with
    | none => if (r.wo (pickF s r.m)).torn = true then none else some (pickL s r.m)
    | some o => if worse (pickL s r.m) o = true then some o else if (r.wo (pickF s r.m)).torn = true then some o else some (pickL s r.m)
def Rw.fewL (r : Rw) : List Nat := (r.fwN (2 ^ r.m)).getD []
theorem Rw.fwN_len (r : Rw) : ∀ s, ((r.fwN s).getD []).length ≤ r.m
  | 0 => Nat.zero_le _
  | s + 1 => by
    have ih := Rw.fwN_len r s
    have hp := pickL_len s r.m
    unfold Rw.fwN
    split
    · split
      · simp
      · simpa using hp
    · rename_i o ho
      rw [ho] at ih
      split
      · exact ih
      · split
        · exact ih
        · simpa using hp
theorem Rw.fwN_none {r : Rw} {s : Nat} (h : r.fwN s = none) : r.fwN (s + 1) = if (r.wo (pickF s r.m)).torn = true then none else some (pickL s r.m) := by
  show (match r.fwN s with | none => _ | some o => _) = _
  rw [h]
theorem Rw.fwN_some {r : Rw} {s : Nat} {o : List Nat} (h : r.fwN s = some o) : r.fwN (s + 1) = if worse (pickL s r.m) o = true then some o else if (r.wo (pickF s r.m)).torn = true then some o else some (pickL s r.m) := by
  show (match r.fwN s with | none => _ | some o => _) = _
  rw [h]
theorem natOwn {w : World} {base : Nat} {v : Value} {l : List Nat} (h : w.ownsRow base 3 1 v l.length (natV l)) : ∃ A c, v = .slice A l.length c ∧ IntRow w w.heap.size A l.length (numOf l) ∧ l.length ≤ c := by
  rw [natV_num] at h
  obtain ⟨A, c, e, ho, hc⟩ := ownInt_of h
  exact ⟨A, c, e, ho.row, hc⟩

set_option maxRecDepth 100000 in
set_option maxHeartbeats 4000000 in
theorem Fewest_any (r : Rw) (bA dA vA : Option Addr) (bc dc vc : Nat) (W : World) (hrow : RwRow W W.heap.size r bA bc dA dc vA vc) :
    Calls Tryz.prog 18 #[rwV bA r.n bc dA r.d dc vA r.m vc] W (NatPost r.fewL r.check W) := by
  have H0 := Lib.hid hrow
  clear hrow
  obtain ⟨i0, hi, hz0, hz1, hz2⟩ := info_parts infoInt
  have hmm := @run_makeMap Tryz.prog
  go_enter Tryz.func18, Tryz.ntmps18
  go_wp2_with fail
  refine (check_any r bA dA vA bc dc vc _ ((H0.out.later (by repeat (first | (with_reducible first | exact Below.refl _ _ | assumption | refine Below.drew ?_) | ((with_reducible first | refine Lc ?_ ?_ _ | refine Ls ?_ ?_ _ | refine Lv (by assumption) ?_ ?_); · first | exact Nat.le_refl _ | omega | (dsimp only; omega) | (simp only [World.size_alloc, World.size_drew, World.heap_drewN]; omega) | (simp; omega))))).up (by first | exact Nat.le_refl _ | omega | (simp; done) | (simp; omega) | (simp at *; omega)) (by first | exact Nat.le_refl _ | omega | (simp; done) | (simp; omega) | (simp at *; omega)))).mono ?_
  rintro e w1 ⟨rfl, hb1⟩
  have HB1 := Lib.hid (show Below W.heap.size W w1 from (by repeat (first | (with_reducible first | exact Below.refl _ _ | refine Below.drew ?_ | refine below_drewN ?_ _) | ((with_reducible first | refine Lc ?_ ?_ _ | refine Ls ?_ ?_ _ | refine Lv (by assumption) ?_ ?_); · first | exact Nat.le_refl _ | omega | (simp; done) | (simp; omega) | (simp at *; omega)))))
  have hs1 := hb1.size
  simp only [World.size_alloc, World.size_drew] at hs1
  have c0 : w1.cell? ⟨W.heap.size, 0, none⟩ = some (.slice bA r.n bc) := Kb hb1 (by (repeat' refine And.intro ?_ ?_) <;> (repeat (first | with_reducible assumption | (simp; done) | (with_reducible first | refine Kd ?_ | refine Kn ?_ | refine Kb (by assumption) ?_) | ((with_reducible first | refine Kw ?_ ?_ | refine Fw ?_) <;> first | with_reducible rfl | (simp; done)) | (with_reducible first | refine Ka _ ?_ | refine Ks _ (by first | exact Nat.le_refl _ | omega | (simp; done) | (simp; omega)) ?_ | refine Fd ?_ | refine Fn ?_ | refine Fb (by assumption) (by first | exact Nat.le_refl _ | omega | (simp; done) | (simp; omega)) ?_ | refine Fa _ (by first | exact Nat.le_refl _ | omega | (simp; done) | (simp; omega)) ?_ | refine Fs _ ?_))))
  have c1 : w1.cell? ⟨W.heap.size, 1, none⟩ = some (.slice dA r.d dc) := Kb hb1 (by (repeat' refine And.intro ?_ ?_) <;> (repeat (first | with_reducible assumption | (simp; done) | (with_reducible first | refine Kd ?_ | refine Kn ?_ | refine Kb (by assumption) ?_) | ((with_reducible first | refine Kw ?_ ?_ | refine Fw ?_) <;> first | with_reducible rfl | (simp; done)) | (with_reducible first | refine Ka _ ?_ | refine Ks _ (by first | exact Nat.le_refl _ | omega | (simp; done) | (simp; omega)) ?_ | refine Fd ?_ | refine Fn ?_ | refine Fb (by assumption) (by first | exact Nat.le_refl _ | omega | (simp; done) | (simp; omega)) ?_ | refine Fa _ (by first | exact Nat.le_refl _ | omega | (simp; done) | (simp; omega)) ?_ | refine Fs _ ?_))))
  have c2 : w1.cell? ⟨W.heap.size, 2, none⟩ = some (.slice vA r.m vc) := Kb hb1 (by (repeat' refine And.intro ?_ ?_) <;> (repeat (first | with_reducible assumption | (simp; done) | (with_reducible first | refine Kd ?_ | refine Kn ?_ | refine Kb (by assumption) ?_) | ((with_reducible first | refine Kw ?_ ?_ | refine Fw ?_) <;> first | with_reducible rfl | (simp; done)) | (with_reducible first | refine Ka _ ?_ | refine Ks _ (by first | exact Nat.le_refl _ | omega | (simp; done) | (simp; omega)) ?_ | refine Fd ?_ | refine Fn ?_ | refine Fb (by assumption) (by first | exact Nat.le_refl _ | omega | (simp; done) | (simp; omega)) ?_ | refine Fa _ (by first | exact Nat.le_refl _ | omega | (simp; done) | (simp; omega)) ?_ | refine Fs _ ?_))))
  clear hb1
  by_cases h0 : r.check = 0
  · rw [h0]
    have HE0 := Lib.hid h0
    have hm10 := (Rw.check_ok.1 h0).m10
    have hp10 : 2 ^ r.m ≤ 1024 := Nat.le_trans (Nat.pow_le_pow_right (by decide) hm10) (by decide)
    obtain ⟨p, hp⟩ : ∃ p, p = 2 ^ r.m := ⟨_, rfl⟩
    rw [← hp] at hp10
    have hpi := shlW r.m p hp hp10
    have HP := Lib.hid hp
    have HD := Lib.hid (And.intro c0 (And.intro c1 c2))
    clear h0 hp c0 c1
    go_wp2_with fail
    clear c2 hpi
    go_loopw [5, 6, 20] (fun l fd i wr => ∃ s : Nat, s ≤ p ∧ i = .int .i64 s ∧ fd = .bool (r.fwN s).isSome ∧ Hid (wr.ownsRow w1.heap.size 3 1 l ((r.fwN s).getD []).length (natV ((r.fwN s).getD []))) ∧ Hid (Below w1.heap.size w1 wr)) (fun _ _ i _ => p - (intOf i).toNat)
    case atStart => exact ⟨0, Nat.zero_le _, rfl, rfl, Lib.hid (World.ownsRow_nil _ _ _ _), Lib.hid (Below.refl _ _)⟩
    case round =>
      obtain ⟨s, hs, rfl, rfl, HO, HB⟩ := hrel
      obtain ⟨wo, rfl⟩ : ∃ wo, wo = wr := ⟨_, rfl⟩
      have hso := HB.out.size
      have hol := Rw.fwN_len r s
      by_cases hlt : s < p
      · have hsn : (s : Int) < (p : Int) := by omega
        have es : IntKind.i64.wrap ((s : Int) + 1) = (s : Int) + 1 := IntWalk.i64_in _ (by omega)
        obtain ⟨oA, oc, hov, hor, hoc⟩ := natOwn HO.out
        subst hov
        have HOR := Lib.hid hor
        obtain ⟨q, hq⟩ : ∃ q, q = r.fwN s := ⟨_, rfl⟩
        rw [← hq] at HO HOR hol hoc ⊢
        have HQ := Lib.hid hq
        clear hor hq
        go_upto_region 11 with fail
        refine wp_world (fun W3 => LeftAt W3 wo.heap.size 0 (pickF s 0) ∧ Below wo.heap.size wo W3 ∧ wo.heap.size + 1 ≤ W3.heap.size) ⟨by have h := LeftAt.made wo; exact (show pickF s 0 = fun _ => false by funext y; simp [pickF]) ▸ h, (by repeat (first | (with_reducible first | exact Below.refl _ _ | assumption | refine Below.drew ?_) | ((with_reducible first | refine Lc ?_ ?_ _ | refine Ls ?_ ?_ _ | refine Lv (by assumption) ?_ ?_); · first | exact Nat.le_refl _ | omega | (dsimp only; omega) | (simp only [World.size_alloc, World.size_drew, World.heap_drewN]; omega) | (simp; omega)))), by simp⟩ ?_
        rintro w3 ⟨hl3, hb3, hs3⟩
        have HL3 := Lib.hid hl3
        have HB3 := Lib.hid hb3
        have d2 := Kb (HB.out.trans (hb3.mono hso)) HD.out.2.2
        clear hl3 hb3
        go_wp2_with fail
        clear d2
        go_loopw [9, 27] (fun l i wr => ∃ k : Nat, k ≤ r.m ∧ i = .int .i64 k ∧ Hid (wr.ownsRow (wo.heap.size + 1) 3 1 l (pickL s k).length (natV (pickL s k))) ∧ Hid (LeftAt wr wo.heap.size k (pickF s k)) ∧ Hid (Below wo.heap.size wo wr) ∧ wo.heap.size + 1 ≤ wr.heap.size) (fun _ i _ => r.m - (intOf i).toNat)
        case atStart => exact ⟨0, Nat.zero_le _, rfl, Lib.hid (World.ownsRow_nil _ _ _ _), HL3, HB3, hs3⟩
        case round =>
          clear HL3 HB3 hs3
          obtain ⟨k, hk, rfl, HK, HL, HBk, hsk⟩ := hrel
          obtain ⟨wp, rfl⟩ : ∃ wp, wp = wr := ⟨_, rfl⟩
          by_cases hkm : k < r.m
          · have hkn : (k : Int) < (r.m : Int) := by omega
            have hk0 : (0 : Int) ≤ (k : Int) := by omega
            have ek : IntKind.i64.wrap ((k : Int) + 1) = (k : Int) + 1 := IntWalk.i64_in _ (by omega)
            have hand := bitW s k (by omega)
            cases hbt : s.testBit k with
            | true =>
              rw [if_pos hbt] at hand
              have HT := Lib.hid hbt
              have HLs : Hid (pickL s (k + 1) = pickL s k ++ [k]) := Lib.hid (by show (if s.testBit k = true then _ else _) = _; rw [if_pos hbt])
              clear hbt
              obtain ⟨w4, hrun, hl4, hg4⟩ := HL.out.put (x := k) (by omega) true (by omega)
              have hv1 := HK.out.lt
              have HK4 := Lib.hid (HK.out.kept hg4 (by
                cases hv : u9.ownBlock with
                | none => exact .inl rfl
                | some i => exact .inr (by have := (hv1 i hv).1; intro e; injection e with e; omega)))
              have HB4 : Hid (Below wo.heap.size wo w4) := Lib.hid (HBk.out.trans ⟨hg4.os, hg4.tape, hg4.output, hg4.size, fun i hi => hg4.block i (by omega) (fun e => by injection e with e; omega)⟩)
              have HL4 : Hid (LeftAt w4 wo.heap.size (k + 1) (pickF s (k + 1))) := Lib.hid (by rw [← pickF_yes HT.out]; exact hl4)
              have hs4 := hg4.size
              have hv4 := HK4.out.lt
              have hll := pickL_len s k
              clear hl4 hg4 HK HL HBk
              go_upto_region 17 with (at_builtin; refine wpList_append_lies _ rfl (.tmp 37) (.tmp 39) 31 rfl (wo.heap.size + 1) 3 i0 (.int .i64 0) 1 8 ints_under hi hz0 hz1 hz2 rfl (by decide) _ (pickL s k).length (natV (pickL s k)) rfl (HK4.out.alloc _) ⟨w4.heap.size, 0, none⟩ 1 1 [.int .i64 (k : Int)] rfl rfl (new_cells (cs := [.int .i64 (k : Int)])) (by intro u hu; simp only [List.mem_cons, List.not_mem_nil, or_false] at hu; subst hu; rfl) (by omega) (by unfold maxLen; omega) (by omega) (by simp; omega) (w4.heap.size + 1) (by simp) ?_; intro g cap w8 hown8 hgr8 hat8 hlt8)
              have hz8 := hgr8.size
              simp only [World.size_alloc] at hz8
              have hk8 : ∀ i, i ≤ wo.heap.size → w8.heap[i]? = w4.heap[i]? := fun i hi => (hgr8.block i (by simp; omega) (fun e => by have := (hv4 i e.symm).1; omega)).trans (Below.heap_alloc _ _ _ (by omega))
              have HO8 := Lib.hid hown8
              have HL8 := Lib.hid (HL4.out.same (hk8 _ (Nat.le_refl _)))
              have HB8 : Hid (Below wo.heap.size wo w8) := Lib.hid (HB4.out.trans ⟨hgr8.os, hgr8.tape, hgr8.output, by omega, fun i hi => hk8 i (by omega)⟩)
              clear hown8 hgr8 hat8 hlt8 hk8 hrun
              go_wp2_with fail
              refine ⟨?_, ?measure⟩
              case measure => simp [intOf]; omega
              exact ⟨k + 1, by omega, by go_num, by rw [HLs.out, natV_snoc, List.length_append]; exact HO8, HL8, HB8, by omega⟩
            | false =>
              rw [if_neg (by rw [hbt]; decide)] at hand
              have HLs : Hid (pickL s (k + 1) = pickL s k) := Lib.hid (by show (if s.testBit k = true then _ else _) = _; rw [if_neg (by rw [hbt]; decide)])
              have HL8 : Hid (LeftAt wp wo.heap.size (k + 1) (pickF s (k + 1))) := Lib.hid (by rw [← pickF_no hbt]; exact HL.out.mono (by omega))
              clear hbt
              go_wp2_with fail
              refine ⟨?_, ?measure⟩
              case measure => simp [intOf]; omega
              exact ⟨k + 1, by omega, by go_num, by rw [HLs.out]; exact HK, HL8, HBk, by omega⟩
          · obtain rfl : k = r.m := by omega
            have hge : ¬ (r.m : Int) < (r.m : Int) := by omega
            obtain ⟨nA, nc, hnv, hnr, hnc⟩ := natOwn HK.out
            subst hnv
            have HNR := Lib.hid hnr
            have hnl := pickL_len s r.m
            have d := HD.out
            have hbw := HB.out.trans (HBk.out.mono hso)
            have d0 := Kb hbw d.1
            have d1 := Kb hbw d.2.1
            have d2 := Kb hbw d.2.2
            have HBW := Lib.hid hbw
            have HOk := Lib.hid (owns_later HO.out HBk.out)
            have HORk := Lib.hid ((HOR.out.below HBk.out).mono (by omega : wo.heap.size ≤ wp.heap.size))
            have HBk1 := Lib.hid (HB.out.trans (HBk.out.mono hso))
            have HBW1 := Lib.hid (HB1.out.trans (HBk1.out.mono (by omega)))
            have hsp := HBk1.out.size
            clear hnr d hbw
            cases q with
            | none =>
              have HN : Hid (r.fwN (s + 1) = if (r.wo (pickF s r.m)).torn = true then none else some (pickL s r.m)) := Lib.hid (Rw.fwN_none HQ.out.symm)
              go_wp2_with fail
              refine (without_any r (pickF s r.m) wo.heap.size r.m bA dA vA bc dc vc _ ((H0.out.later HBW1.out).up (by omega) (Nat.le_refl _)) HL.out).mono ?_
              rintro e w5 ⟨A5, c5, rfl, hr5, hb5⟩
              have HR5 := Lib.hid hr5
              have HO5 := Lib.hid (owns_later HOk.out hb5)
              have HK5 := Lib.hid (owns_later HK.out hb5)
              have HB5 := Lib.hid (HBk1.out.trans (hb5.mono (by omega)))
              have hs5 := hb5.size
              clear hb5 hr5 d0 d1 d2
              go_wp2_with fail
              refine (clashes_any (r.wo (pickF s r.m)) bA dA A5 bc dc c5 _ HR5.out).mono ?_
              rintro e w6 ⟨rfl, hb6⟩
              have HO6 := Lib.hid (owns_later HO5.out hb6)
              have HK6 := Lib.hid (owns_later HK5.out hb6)
              have HB6 := Lib.hid (HB5.out.trans (hb6.mono (by omega)))
              have hs6 := hb6.size
              clear hb6
              cases ht : ((r.wo (pickF s r.m)).fitErr == 7) with
              | true =>
                have HN2 : Hid (r.fwN (s + 1) = none) := Lib.hid (by rw [HN.out]; exact if_pos ht)
                clear ht
                go_wp2_with fail
                refine ⟨?_, ?measure⟩
                case measure => simp [intOf]; omega
                exact ⟨s + 1, by omega, by go_num, by rw [HN2.out]; rfl, by rw [HN2.out]; exact HO6, HB6⟩
              | false =>
                have HN2 : Hid (r.fwN (s + 1) = some (pickL s r.m)) := Lib.hid (by rw [HN.out]; exact if_neg (by unfold Rw.torn; rw [ht]; decide))
                clear ht
                go_wp2_with fail
                refine ⟨?_, ?measure⟩
                case measure => simp [intOf]; omega
                exact ⟨s + 1, by omega, by go_num, by rw [HN2.out]; rfl, by rw [HN2.out]; exact Lib.hid (owns_low (by omega) HK6.out), HB6⟩
            | some o =>
              have HNS := Lib.hid (Rw.fwN_some (r := r) HQ.out.symm)
              by_cases h1 : o.length < (pickL s r.m).length
              · have h1' : (o.length : Int) < ((pickL s r.m).length : Int) := by omega
                have HN2 : Hid (r.fwN (s + 1) = some o) := Lib.hid (by rw [HNS.out, if_pos (by unfold worse; simp [h1])])
                clear h1
                go_wp2_with fail
                refine ⟨?_, ?measure⟩
                case measure => simp [intOf]; omega
                exact ⟨s + 1, by omega, by go_num, by rw [HN2.out]; rfl, by rw [HN2.out]; exact HOk, HBk1⟩
              · have h1' : ¬ (o.length : Int) < ((pickL s r.m).length : Int) := by omega
                by_cases h2 : (pickL s r.m).length = o.length
                · have h2' : (((pickL s r.m).length : Int) == (o.length : Int)) = true := by rw [beq_iff_eq]; omega
                  have HW : Hid (worse (pickL s r.m) o = decide (0 ≤ cmpN (numOf (pickL s r.m)) (numOf o) (pickL s r.m).length)) := Lib.hid (by unfold worse; simp [h1, h2])
                  have HCA := Lib.hid (compare_any nA oA (pickL s r.m).length nc oc (numOf (pickL s r.m)) (numOf o) wp HNR.out (by rw [h2]; exact HORk.out) (by omega))
                  obtain ⟨z, hz⟩ : ∃ z, z = cmpN (numOf (pickL s r.m)) (numOf o) (pickL s r.m).length := ⟨_, rfl⟩
                  rw [← hz] at HW HCA
                  have HCB : Hid (Calls Tryz.prog 75 #[.slice nA (pickL s r.m).length nc, .slice oA o.length oc] wp fun e W' => e = .returned (.int .i64 z) ∧ wp = W') := Lib.hid (by have h := HCA.out; rw [show (Value.slice oA (pickL s r.m).length oc) = Value.slice oA o.length oc by rw [h2]] at h; exact h)
                  clear hz HCA h1 h2
                  by_cases h0 : 0 ≤ z
                  · have HN2 : Hid (r.fwN (s + 1) = some o) := Lib.hid (by rw [HNS.out, if_pos (by rw [HW.out]; simpa using h0)])
                    go_wp2_with fail
                    refine HCB.out.mono ?_
                    rintro e w7 ⟨rfl, rfl⟩
                    go_wp2_with fail
                    refine ⟨?_, ?measure⟩
                    case measure => simp [intOf]; omega
                    exact ⟨s + 1, by omega, by go_num, by rw [HN2.out]; rfl, by rw [HN2.out]; exact HOk, HBk1⟩
                  · have HN : Hid (r.fwN (s + 1) = if (r.wo (pickF s r.m)).torn = true then some o else some (pickL s r.m)) := Lib.hid (by rw [HNS.out, if_neg (by rw [HW.out]; simpa using h0)])
                    go_wp2_with fail
                    refine HCB.out.mono ?_
                    rintro e w7 ⟨rfl, rfl⟩
                    go_wp2_with fail
                    refine (without_any r (pickF s r.m) wo.heap.size r.m bA dA vA bc dc vc _ ((H0.out.later HBW1.out).up (by omega) (Nat.le_refl _)) HL.out).mono ?_
                    rintro e w5 ⟨A5, c5, rfl, hr5, hb5⟩
                    have HR5 := Lib.hid hr5
                    have HO5 := Lib.hid (owns_later HOk.out hb5)
                    have HK5 := Lib.hid (owns_later HK.out hb5)
                    have HB5 := Lib.hid (HBk1.out.trans (hb5.mono (by omega)))
                    have hs5 := hb5.size
                    clear hb5 hr5 d0 d1 d2
                    go_wp2_with fail
                    refine (clashes_any (r.wo (pickF s r.m)) bA dA A5 bc dc c5 _ HR5.out).mono ?_
                    rintro e w6 ⟨rfl, hb6⟩
                    have HO6 := Lib.hid (owns_later HO5.out hb6)
                    have HK6 := Lib.hid (owns_later HK5.out hb6)
                    have HB6 := Lib.hid (HB5.out.trans (hb6.mono (by omega)))
                    have hs6 := hb6.size
                    clear hb6
                    cases ht : ((r.wo (pickF s r.m)).fitErr == 7) with
                    | true =>
                      have HN2 : Hid (r.fwN (s + 1) = some o) := Lib.hid (by rw [HN.out]; exact if_pos ht)
                      clear ht
                      go_wp2_with fail
                      refine ⟨?_, ?measure⟩
                      case measure => simp [intOf]; omega
                      exact ⟨s + 1, by omega, by go_num, by rw [HN2.out]; rfl, by rw [HN2.out]; exact HO6, HB6⟩
                    | false =>
                      have HN2 : Hid (r.fwN (s + 1) = some (pickL s r.m)) := Lib.hid (by rw [HN.out]; exact if_neg (by unfold Rw.torn; rw [ht]; decide))
                      clear ht
                      go_wp2_with fail
                      refine ⟨?_, ?measure⟩
                      case measure => simp [intOf]; omega
                      exact ⟨s + 1, by omega, by go_num, by rw [HN2.out]; rfl, by rw [HN2.out]; exact Lib.hid (owns_low (by omega) HK6.out), HB6⟩
                · have h2' : (((pickL s r.m).length : Int) == (o.length : Int)) = false := by rw [beq_eq_false_iff_ne]; omega
                  have HN : Hid (r.fwN (s + 1) = if (r.wo (pickF s r.m)).torn = true then some o else some (pickL s r.m)) := Lib.hid (by rw [HNS.out, if_neg (by unfold worse; simp [h1, h2])])
                  clear h1 h2
                  go_wp2_with fail
                  refine (without_any r (pickF s r.m) wo.heap.size r.m bA dA vA bc dc vc _ ((H0.out.later HBW1.out).up (by omega) (Nat.le_refl _)) HL.out).mono ?_
                  rintro e w5 ⟨A5, c5, rfl, hr5, hb5⟩
                  have HR5 := Lib.hid hr5
                  have HO5 := Lib.hid (owns_later HOk.out hb5)
                  have HK5 := Lib.hid (owns_later HK.out hb5)
                  have HB5 := Lib.hid (HBk1.out.trans (hb5.mono (by omega)))
                  have hs5 := hb5.size
                  clear hb5 hr5 d0 d1 d2
                  go_wp2_with fail
                  refine (clashes_any (r.wo (pickF s r.m)) bA dA A5 bc dc c5 _ HR5.out).mono ?_
                  rintro e w6 ⟨rfl, hb6⟩
                  have HO6 := Lib.hid (owns_later HO5.out hb6)
                  have HK6 := Lib.hid (owns_later HK5.out hb6)
                  have HB6 := Lib.hid (HB5.out.trans (hb6.mono (by omega)))
                  have hs6 := hb6.size
                  clear hb6
                  cases ht : ((r.wo (pickF s r.m)).fitErr == 7) with
                  | true =>
                    have HN2 : Hid (r.fwN (s + 1) = some o) := Lib.hid (by rw [HN.out]; exact if_pos ht)
                    clear ht
                    go_wp2_with fail
                    refine ⟨?_, ?measure⟩
                    case measure => simp [intOf]; omega
                    exact ⟨s + 1, by omega, by go_num, by rw [HN2.out]; rfl, by rw [HN2.out]; exact HO6, HB6⟩
                  | false =>
                    have HN2 : Hid (r.fwN (s + 1) = some (pickL s r.m)) := Lib.hid (by rw [HN.out]; exact if_neg (by unfold Rw.torn; rw [ht]; decide))
                    clear ht
                    go_wp2_with fail
                    refine ⟨?_, ?measure⟩
                    case measure => simp [intOf]; omega
                    exact ⟨s + 1, by omega, by go_num, by rw [HN2.out]; rfl, by rw [HN2.out]; exact Lib.hid (owns_low (by omega) HK6.out), HB6⟩
      · obtain rfl : s = p := by omega
        have hge : ¬ (s : Int) < (s : Int) := by omega
        have HV : Hid (r.fewL = (r.fwN s).getD []) := Lib.hid (by unfold Rw.fewL; rw [HP.out])
        go_wp2_with fail
        go_ret2
        exact .inl ⟨HE0.out, _, rfl, by rw [HV.out]; exact owns_low (by omega) HO.out, HB1.out.trans (HB.out.mono (by omega))⟩
  · have hne : (r.check != 0) = true := by simpa using h0
    have HE0 := Lib.hid h0
    clear h0
    go_wp2_with fail
    go_ret2
    exact .inr ⟨HE0.out, rfl, HB1.out⟩
end Go.Proofs.YtnnikeolgknfoaaGreat
