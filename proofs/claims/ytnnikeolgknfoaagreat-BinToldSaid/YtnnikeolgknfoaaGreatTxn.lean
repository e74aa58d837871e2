/- BinTold: the joined statement. -/
import Derived.Test.YtnnikeolgknfoaaGreatCq
import Derived.Test.YtnnikeolgknfoaaGreatTxm
import Derived.Deep.AppendLies
import Derived.Deep.CutBlock
import Derived.Test.YtnnikeolgknfoaaGreatRows
import Derived.Test.YtnnikeolgknfoaaGreatPo
import Derived.Test.YtnnikeolgknfoaaGreatPr
set_option linter.unusedSimpArgs false
set_option linter.unusedVariables false
namespace Go.Proofs.YtnnikeolgknfoaaGreat
open Go.RowKit Go.Shelf

set_option maxRecDepth 100000 in
set_option maxHeartbeats 1000000 in
theorem copy_int (A : Option Addr) (n c : Nat) (P : Nat → Int) (W : World) (hr : IntRow W W.heap.size A n P) (hn : n ≤ 1000) :
    Calls Tryz.prog 21 #[.slice A n c] W fun e W' => Below W.heap.size W W' ∧ ∃ A c', e = .returned (.slice A n c') ∧ OwnInt W' W.heap.size A n P ∧ n ≤ c' := by
  have HR := Lib.hid hr
  obtain ⟨i0, hi, hz0, hz1, hz2⟩ := info_parts infoInt
  by_cases h0 : n = 0
  · subst h0
    clear hr
    go_enter Tryz.func21, Tryz.ntmps21
    go_wp2_with fail
    go_ret
    exact ⟨Below.refl _ _, none, 0, rfl, fun k hk => by omega, Nat.le_refl _⟩
  · obtain ⟨a, rfl⟩ : ∃ a, A = some a := by cases A with | none => exact absurd (hr.none rfl) h0 | some a => exact ⟨a, rfl⟩
    have hb : ((n : Int) == 0) = false := by rw [beq_eq_false_iff_ne]; omega
    clear hr h0
    go_enter Tryz.func21, Tryz.ntmps21
    go_wp2_with (at_builtin; refine wpList_append_own _ rfl _ _ 31 rfl W.heap.size 3 i0 (.int .i64 0) 1 8 ints_under hi hz0 hz1 hz2 rfl (by decide) (.slice (some ⟨W.heap.size, 0, none⟩) 0 0) 0 [] rfl (World.ownsRow_made W #[] 0 (Nat.le_refl _) (Nat.zero_le _) rfl) a n c (numCells P n) rfl (by rw [numCells_len, Nat.mul_one]) ?c1 (numCells_one _ _) ?c3 ?c4 ?c5 ?_)
    case c1 =>
      intro j u hj
      exact Lib.cell?_alloc_some _ (HR.out.atN hj)
    case c3 => unfold maxLen; omega
    case c4 => omega
    case c5 => simp
    intro v' w1 hown hgrow hnil
    go_wp2
    go_ret
    have hB : Below W.heap.size W w1 := ((Below.refl _ W).alloc (Nat.le_refl _) _).grown hgrow (by simp) (by intro k hk; simp [Value.ownBlock] at hk; omega)
    obtain ⟨A, c', rfl, h1, h2⟩ := ownInt_T (X := P) (by simpa using hown)
    exact ⟨hB, A, c', rfl, h1, h2⟩

set_option maxRecDepth 100000 in
set_option maxHeartbeats 2000000 in
theorem alike_kd (A C : Option Addr) (n m ca cc : Nat) (X Y : Nat → Int) (W : World) (hA : IntRow W W.heap.size A n X) (hC : IntRow W W.heap.size C m Y) (hn : n ≤ 1000) :
    Calls Tryz.prog 78 #[.slice A n ca, .slice C m cc] W fun e W' => e = .returned (.bool (decide (n = m) && allN (fun k => decide (X k = Y k)) n)) ∧ Below W.heap.size W W' := by
  have HA := Lib.hid hA
  have HC := Lib.hid hC
  clear hA hC
  by_cases hnm : n = m
  · subst hnm
    have hb : ((n : Int) != (n : Int)) = false := by simp
    go_enter Tryz.func78, Tryz.ntmps78
    go_wp2_with fail
    go_loopw [14] (fun i wr => ∃ k : Nat, k ≤ n ∧ i = .int .i64 k ∧ Hid (allN (fun k => decide (X k = Y k)) k = true) ∧ wr = W) (fun i _ => n - (intOf i).toNat)
    case atStart => exact ⟨0, Nat.zero_le _, rfl, Lib.hid rfl, rfl⟩
    case round =>
      obtain ⟨k, hk, rfl, hal, rfl⟩ := hrel
      by_cases hlt : k < n
      · obtain ⟨b, o, rfl, hb1, c0⟩ := HA.out k hlt
        obtain ⟨b', o', rfl, hb2, d0⟩ := HC.out k hlt
        have hk0 : (0 : Int) ≤ (k : Int) := by omega
        have hkn : (k : Int) < (n : Int) := by omega
        cases hxy : X k != Y k with
        | false =>
          have hal2 : Hid (allN (fun k => decide (X k = Y k)) (k + 1) = true) := Lib.hid (by
            show (allN _ k && decide (X k = Y k)) = true
            rw [hal.out]
            have : X k = Y k := by simpa using hxy
            simp [this])
          go_wp2_with fail
          go_roundw
          case rel => exact ⟨k + 1, by omega, by go_num, hal2, trivial⟩
          case measure => simp [intOf]; omega
        | true =>
          have hno : Hid (allN (fun k => decide (X k = Y k)) n = false) := Lib.hid (by
            cases h : allN (fun k => decide (X k = Y k)) n with
            | false => rfl
            | true =>
              have h2 := allN_iff.1 h k hlt
              simp only [decide_eq_true_eq] at h2
              rw [h2] at hxy
              simp at hxy)
          go_wp2_with fail
          go_ret
          exact ⟨by rw [hno.out]; simp, Below.refl _ _⟩
      · obtain rfl : k = n := by omega
        have hge : ¬ (k : Int) < (k : Int) := by omega
        go_wp2_with fail
        go_ret
        exact ⟨by rw [hal.out]; simp, Below.refl _ _⟩
  · have hb : ((n : Int) != (m : Int)) = true := by rw [bne_iff_ne]; omega
    have HN := Lib.hid hnm
    clear hnm
    go_enter Tryz.func78, Tryz.ntmps78
    go_wp2_with fail
    go_ret
    exact ⟨by simp [HN.out], Below.refl _ _⟩

end Go.Proofs.YtnnikeolgknfoaaGreat

set_option linter.unusedSimpArgs false
set_option linter.unusedVariables false
namespace Go.Proofs.YtnnikeolgknfoaaGreat
open Go.RowKit Go.Shelf

set_option maxRecDepth 100000 in
set_option maxHeartbeats 16000000 in
theorem told_loop0 (r : Rw) (HOK : Hid r.ok) (X : Nat → Int) (HX : Hid (∀ k, k < r.n → -50000 ≤ X k ∧ X k ≤ 50000)) (rx : Nat) (xA : Option Addr) (xc : Nat) (B cb : Nat) (nA : Option Addr) (nn nc : Nat) (hln : nn ≤ 9223372036854775807) (w0 : World) (HR : Hid (∀ w', w0.grownBy w' (some cb) → RowIx w' rx r)) (HXr : Hid (∀ w', w0.grownBy w' (some cb) → IntRow w' w'.heap.size xA r.n X)) {u0 u1 u2 u3 u4 u8 u9 u10 u11 u12 u13 u15 u16 u17 u18 u19 u20 u21 u22 u23 u24 u25 u26 u27 u28 u29 u30 u31 u32 u33 u34 u35 u36 u37 u38 u39 u40 u41 u42 u43 u44 u45 u46 u47 u48 u49 u50 u51 u52 u53 u54 u55 u56 u57 u58 u59 u60 u61 u62 u63 u64 u65 u66 u67 u68 u69 u70 u71 u72 u73 u74 u75 u76 u77 u78 u79 u80 u82 u83 u84 u85 u86 u87 u88 u89 u90 u91 u92 u93 u94 u95 u96 u97 u98 u99 u100 u101 u102 u103 u104 u105 u106 u107 u108 u109 u110 u111 u112 u113 u114 u115 u116 u117 u118 u119 u120 u121 u122 u123 u124 u125 u126 u127 u128 u129 u130 u131 u132 u133 u134 u135 u136 u137 u138 u139 u140 u141 u142 u143 u144 u145 u146 u147 u148 u149 u150 u151 u152 u153 u154 u155 u156 u157 u158 u159 u160 u161 u162 u163 u164 u165 u166 u167 u168 u169 u170 u171 u172 u173 u174 u175 u176 u177 u178 u179 u180 u181 u182 u183 u184 u185 u186 u187 u188 u189 u190 u191 u192 u193 u194 u195 u196 u197 u198 u199 u200 u201 u202 u203 u204 u205 u206 u207 u208 u209 u210 u211 u212 u213 u214 u215 u216 u217 u218 u219 u220 u221 u222 u223 u224 u225 u226 u227 u228 u229 u230 u231 u232 : Value} (v : Value) (xs : List Value) (w : World) (HT : Hid (TlAt w0 w B cb nA nn nc r v 2 xs))
    (Q : Exit → Act → World → Prop) (hK : ∀ {x4 x15 x16 x17 x81 x82 x83 x84 x85 x86 x87 x88 x89 x90 x91 x92 x93 x94 x95 x96 x97 x98 x99 x100 x101 x102 x103 x104 x105 x106 x107 x108 x109 x110 x111 x112 x113 x114 : Value} (m : Nat) (A : Option Addr) (c : Nat) (w' : World), m ≤ 7 → Hid (w0.grownBy w' (some cb)) → Hid (LsRow w' r A m) → Q .normal ⟨(List.toArray (u0 :: u1 :: u2 :: u3 :: x4 :: (.pointer (some ⟨rx, 0, none⟩)) :: (.slice xA r.n xc) :: (.pointer (some ⟨cb, 0, none⟩)) :: u8 :: u9 :: u10 :: u11 :: u12 :: u13 :: (.slice A m c) :: x15 :: x16 :: x17 :: u18 :: u19 :: u20 :: u21 :: u22 :: u23 :: u24 :: u25 :: u26 :: u27 :: u28 :: u29 :: u30 :: u31 :: u32 :: u33 :: u34 :: u35 :: u36 :: u37 :: u38 :: u39 :: u40 :: u41 :: u42 :: u43 :: u44 :: u45 :: u46 :: u47 :: u48 :: u49 :: u50 :: u51 :: u52 :: u53 :: u54 :: u55 :: u56 :: u57 :: u58 :: u59 :: u60 :: u61 :: u62 :: u63 :: u64 :: u65 :: u66 :: u67 :: u68 :: u69 :: u70 :: u71 :: u72 :: u73 :: u74 :: u75 :: u76 :: u77 :: u78 :: u79 :: u80 :: x81 :: x82 :: x83 :: x84 :: x85 :: x86 :: x87 :: x88 :: x89 :: x90 :: x91 :: x92 :: x93 :: x94 :: x95 :: x96 :: x97 :: x98 :: x99 :: x100 :: x101 :: x102 :: x103 :: x104 :: x105 :: x106 :: x107 :: x108 :: x109 :: x110 :: x111 :: x112 :: x113 :: x114 :: u115 :: u116 :: u117 :: u118 :: u119 :: u120 :: u121 :: u122 :: u123 :: u124 :: u125 :: u126 :: u127 :: u128 :: u129 :: u130 :: u131 :: u132 :: u133 :: u134 :: u135 :: u136 :: u137 :: u138 :: u139 :: u140 :: u141 :: u142 :: u143 :: u144 :: u145 :: u146 :: u147 :: u148 :: u149 :: u150 :: u151 :: u152 :: u153 :: u154 :: u155 :: u156 :: u157 :: u158 :: u159 :: u160 :: u161 :: u162 :: u163 :: u164 :: u165 :: u166 :: u167 :: u168 :: u169 :: u170 :: u171 :: u172 :: u173 :: u174 :: u175 :: u176 :: u177 :: u178 :: u179 :: u180 :: u181 :: u182 :: u183 :: u184 :: u185 :: u186 :: u187 :: u188 :: u189 :: u190 :: u191 :: u192 :: u193 :: u194 :: u195 :: u196 :: u197 :: u198 :: u199 :: u200 :: u201 :: u202 :: u203 :: u204 :: u205 :: u206 :: u207 :: u208 :: u209 :: u210 :: u211 :: u212 :: u213 :: u214 :: u215 :: u216 :: u217 :: u218 :: u219 :: u220 :: u221 :: u222 :: u223 :: u224 :: u225 :: u226 :: u227 :: u228 :: u229 :: u230 :: u231 :: u232 :: [])), []⟩ w') :
    Code.wp Tryz.prog (blkIn Tryz.f10 0) Q ⟨(List.toArray (u0 :: u1 :: u2 :: u3 :: u4 :: (.pointer (some ⟨rx, 0, none⟩)) :: (.slice xA r.n xc) :: (.pointer (some ⟨cb, 0, none⟩)) :: u8 :: u9 :: u10 :: u11 :: u12 :: u13 :: (v) :: u15 :: u16 :: u17 :: u18 :: u19 :: u20 :: u21 :: u22 :: u23 :: u24 :: u25 :: u26 :: u27 :: u28 :: u29 :: u30 :: u31 :: u32 :: u33 :: u34 :: u35 :: u36 :: u37 :: u38 :: u39 :: u40 :: u41 :: u42 :: u43 :: u44 :: u45 :: u46 :: u47 :: u48 :: u49 :: u50 :: u51 :: u52 :: u53 :: u54 :: u55 :: u56 :: u57 :: u58 :: u59 :: u60 :: u61 :: u62 :: u63 :: u64 :: u65 :: u66 :: u67 :: u68 :: u69 :: u70 :: u71 :: u72 :: u73 :: u74 :: u75 :: u76 :: u77 :: u78 :: u79 :: u80 :: (.int .i64 0) :: u82 :: u83 :: u84 :: u85 :: u86 :: u87 :: u88 :: u89 :: u90 :: u91 :: u92 :: u93 :: u94 :: u95 :: u96 :: u97 :: u98 :: u99 :: u100 :: u101 :: u102 :: u103 :: u104 :: u105 :: u106 :: u107 :: u108 :: u109 :: u110 :: u111 :: u112 :: u113 :: u114 :: u115 :: u116 :: u117 :: u118 :: u119 :: u120 :: u121 :: u122 :: u123 :: u124 :: u125 :: u126 :: u127 :: u128 :: u129 :: u130 :: u131 :: u132 :: u133 :: u134 :: u135 :: u136 :: u137 :: u138 :: u139 :: u140 :: u141 :: u142 :: u143 :: u144 :: u145 :: u146 :: u147 :: u148 :: u149 :: u150 :: u151 :: u152 :: u153 :: u154 :: u155 :: u156 :: u157 :: u158 :: u159 :: u160 :: u161 :: u162 :: u163 :: u164 :: u165 :: u166 :: u167 :: u168 :: u169 :: u170 :: u171 :: u172 :: u173 :: u174 :: u175 :: u176 :: u177 :: u178 :: u179 :: u180 :: u181 :: u182 :: u183 :: u184 :: u185 :: u186 :: u187 :: u188 :: u189 :: u190 :: u191 :: u192 :: u193 :: u194 :: u195 :: u196 :: u197 :: u198 :: u199 :: u200 :: u201 :: u202 :: u203 :: u204 :: u205 :: u206 :: u207 :: u208 :: u209 :: u210 :: u211 :: u212 :: u213 :: u214 :: u215 :: u216 :: u217 :: u218 :: u219 :: u220 :: u221 :: u222 :: u223 :: u224 :: u225 :: u226 :: u227 :: u228 :: u229 :: u230 :: u231 :: u232 :: [])), []⟩ w := by
  (conv => arg 2; whnf)
  have hn1 := HOK.out.n1
  have hn6 := HOK.out.n6
  obtain ⟨i1, hi, hz0, hz1, hz2⟩ := info_parts infoRow
  go_wp2_with fail
  go_loopw [14, 81] (fun v i wr => ∃ (k m : Nat) (xs : List Value), k ≤ 5 ∧ m ≤ 2 + k ∧ i = .int .i64 k ∧ Hid (TlAt w0 wr B cb nA nn nc r v m xs)) (fun _ i _ => 5 - (intOf i).toNat)
  case atStart => exact ⟨0, 2, xs, Nat.zero_le _, Nat.le_refl _, rfl, HT⟩
  case round =>
    clear HT
    obtain ⟨k, m, xs, hk, hm, rfl, HT⟩ := hrel
    obtain ⟨wo, rfl⟩ : ∃ wo, wo = wr := ⟨_, rfl⟩
    by_cases hlt : k < 5
    · have hk0 : (0 : Int) ≤ (k : Int) := by omega
      have hkn : (k : Int) < 5 := by omega
      have eq1 : IntKind.i64.wrap ((k : Int) + 1) = (k : Int) + 1 := IntWalk.i64_in _ (by omega)
      have HOW : Hid (∀ q, Value.ownBlock u14 = some q → q < wo.heap.size) := Lib.hid (fun q hq => (HT.out.o.lt q hq).2)
      go_wp2_with fail
      refine (copy_int xA r.n xc X _ (HXr.out _ HT.out.g) (by omega)).mono ?_
      rintro e w1 ⟨hb1, tA, tc, rfl, hot, htc⟩
      obtain ⟨tb, rfl, htl, ht0, htf⟩ := hot 0 (by omega)
      have HP1 : Hid (TpAt wo w1 B cb nA nn nc r.n tb X) := Lib.hid ⟨fun k hk => by
        obtain ⟨b', hA, _, hc, _⟩ := hot k hk
        injection hA with hA
        injection hA with hA
        subst hA
        exact hc, htf, ⟨htl, World.block_lt_of_cell? w1 _ ht0⟩, HT.out.c.later hb1, gb_of_below cb hb1, by have := HT.out.s; have := HT.out.g.size; omega⟩
      clear hot htl ht0 htf hb1
      go_wp2_with fail
      refine (pull_any B cb nA nn nc 4 (by omega) hln _ HP1.out.c).mono ?_
      rintro e w2 ⟨cnt, rfl, hc0, hc1, hg2, hc2⟩
      obtain ⟨cnt, rfl⟩ := Int.eq_ofNat_of_zero_le hc0
      have HP2 := Lib.hid (HP1.out.pull hg2 hc2)
      clear hg2 hc2 HP1
      go_upto_block 2 with fail
      refine told_loop2 r.n hn1 hn6 B cb nA nn nc hln cnt (by omega) tb X HX tc htc wo w2 HP2 _ ?_
      intro x87 x88 x89 x90 x91 x92 x93 x94 x95 x96 x97 x98 x99 x100 Y w3 HP3 HY
      have HT3 := Lib.hid (HT.out.keep HP3.out.g HP3.out.c)
      have HI3 : Hid (IntRow w3 w3.heap.size (some ⟨tb, 0, none⟩) r.n Y) := Lib.hid (fun k hk => ⟨tb, 0, rfl, HP3.out.lt.2, by rw [Nat.zero_add]; exact HP3.out.t k hk⟩)
      clear HP2 HT
      obtain ⟨bA, dA, vA, bc, dc, vc, ⟨c0, c1, c2⟩, hr⟩ := HR.out _ HT3.out.g
      go_wp2_with fail
      refine (Fits_any r HOK.out Y HY.out (some ⟨tb, 0, none⟩) tc htc bA dA vA bc dc vc _ hr HI3.out).mono ?_
      rintro e w4 ⟨rfl, hb4⟩
      have HT4 := Lib.hid (HT3.out.later hb4)
      have HP4 := Lib.hid (HP3.out.later hb4)
      clear hb4 c0 c1 c2 hr HT3 HI3 HP3
      cases hfi : r.fitsB Y with
      | true =>
        have HFI := Lib.hid (Rw.fitsB_iff.1 hfi)
        clear hfi
        have hz04 := HT4.out.g.size
        have hs4 := HT4.out.s
        have ht4 := HP4.out.lt
        have hp4 := HP4.out.s
        go_upto_region 21 with (at_builtin; refine wpList_append_lies _ rfl (.tmp 110) (.tmp 112) 106 rfl w0.heap.size 31 i1 (.slice none 0 0) 1 24 rows_under hi hz0 hz1 hz2 rfl (by decide) u14 m xs rfl (HT4.out.o.alloc _) ⟨w4.heap.size, 0, none⟩ 1 1 [.slice (some ⟨tb, 0, none⟩) r.n tc] rfl rfl (new_cells (cs := [.slice (some ⟨tb, 0, none⟩) r.n tc])) (by intro u hu; simp only [List.mem_cons, List.not_mem_nil, or_false] at hu; subst hu; rfl) (by omega) (by unfold maxLen; omega) (by omega) (by simp; omega) (w4.heap.size + 1) (by simp) ?_; intro g cap w6 hown6 hgr6 hat6 hlt6)
        have HT6 := Lib.hid (TlAt.add (HT4.out.later ((Below.refl _ _).alloc (Nat.le_refl _) _)) hown6 hgr6 (by simpa using hat6) ⟨_, tc, Y, rfl, htc, fun k hk => ⟨tb, 0, rfl, ⟨by omega, fun e => by have := HOW.out tb e; omega⟩, by rw [Nat.zero_add]; exact Ka _ (HP4.out.t k hk)⟩, HFI.out, HY.out⟩)
        clear hown6 hgr6 hat6 hlt6 HT4 HP4
        go_wp2_with fail
        go_roundw
        case rel => exact ⟨k + 1, m + 1, _, by omega, by omega, by go_num, HT6⟩
        case measure => simp [intOf]; omega
      | false =>
        clear hfi
        go_wp2_with fail
        go_roundw
        case rel => exact ⟨k + 1, m, xs, by omega, by omega, by go_num, HT4⟩
        case measure => simp [intOf]; omega
    · obtain rfl : k = 5 := by omega
      have hge : ¬ ((5 : Nat) : Int) < 5 := by omega
      obtain ⟨A, c, rfl, hl⟩ := HT.out.row
      have HL := Lib.hid hl
      have HG := Lib.hid HT.out.g
      clear hl
      go_wp2_with fail
      all_goals exact hK _ _ _ _ (by omega) HG HL
end Go.Proofs.YtnnikeolgknfoaaGreat

set_option linter.unusedSimpArgs false
set_option linter.unusedVariables false
namespace Go.Proofs.YtnnikeolgknfoaaGreat
open Go.RowKit Go.Shelf

set_option maxRecDepth 100000 in
set_option maxHeartbeats 8000000 in
theorem told_law (nA : Option Addr) (nn nc : Nat) (tA : Option Addr) (tn tc : Nat) (W : World) (hby : ByIn W W.heap.size nA nn) (hln : nn ≤ 9223372036854775807) (hby2 : ByIn W W.heap.size tA tn) (hln2 : tn ≤ 9223372036854775807) :
    Calls Tryz.prog 10 #[.slice nA nn nc, .slice tA tn tc] W fun e W' => e = .returned (.bool true) ∧ Below W.heap.size W W' := by
  have HBY := Lib.hid hby
  have HBY2 := Lib.hid hby2
  clear hby hby2
  go_enter Tryz.func10, Tryz.ntmps10
  go_wp2_with fail
  refine (fill_any W.heap.size nA nn nc _ (Nat.le_refl _) HBY.out).mono ?_
  rintro e w1 ⟨cb, rfl, hcb, hb1, hch⟩
  have HB1 := Lib.hid hb1
  have HC1 := Lib.hid hch
  have hs1 := hb1.size
  have hcl : cb < w1.heap.size := by
    obtain ⟨u, z, _, h⟩ := hch
    exact h.lt
  clear hb1 hch
  go_wp2_with fail
  refine (made_any 5 6 (by omega) (by omega) W.heap.size cb nA nn nc hln _ hs1 hcl HC1.out).mono ?_
  rintro e w2 ⟨r, X, bA, dA, vA, xA, bc, dc, vc, xc, rfl, hmd, hob, hod, hov, hox, ⟨hbc, hdc, hvc, hxc⟩, hg2, hc2⟩
  have hok := hmd.ok (by omega) (by omega)
  have HOK := Lib.hid hok
  have HFX := Lib.hid hmd.fits
  have HRD := Lib.hid (Rw.fits_round hok hmd.fits)
  have HXB : Hid (∀ k, k < r.n → -50000 ≤ X k ∧ X k ≤ 50000) := Lib.hid (fun k hk => by have h1 := hmd.x k hk; have h2 := Rw.sp_bd hok hk; omega)
  have hn1 := hok.n1
  have hn6 := hok.n6
  have HB2 := Lib.hid (HB1.out.trans (gb_below hg2 hs1 hcb))
  have HR2 : Hid (RwRow w2 w2.heap.size r bA bc dA dc vA vc) := Lib.hid ⟨Nat.le_refl _, hob.row, hod.row, hov.row, by have := hok.n6; omega, by have := hok.d7; omega, by have := hok.m10; omega, hbc, hdc, hvc⟩
  have HX2 := Lib.hid hox.row
  have hs2 := HB2.out.size
  clear hmd hob hod hov hox hg2 hc2 hok HB1 HC1 HBY hs1 hcl hcb hbc hdc hvc
  go_upto_region 2 with fail
  refine wp_world (fun w' => RwAt w' w2.heap.size r bA bc dA dc vA vc ∧ Below w2.heap.size w2 w' ∧ w2.heap.size + 1 ≤ w'.heap.size) ⟨⟨(by (repeat' refine And.intro ?_ ?_) <;> (repeat (first | with_reducible assumption | (simp; done) | (with_reducible first | refine Kd ?_ | refine Kn ?_ | refine Kb (by assumption) ?_) | ((with_reducible first | refine Kw ?_ ?_ | refine Fw ?_) <;> first | with_reducible rfl | (simp; done)) | (with_reducible first | refine Ka _ ?_ | refine Ks _ (by first | exact Nat.le_refl _ | omega | (simp; done) | (simp; omega)) ?_ | refine Fd ?_ | refine Fn ?_ | refine Fb (by assumption) (by first | exact Nat.le_refl _ | omega | (simp; done) | (simp; omega)) ?_ | refine Fa _ (by first | exact Nat.le_refl _ | omega | (simp; done) | (simp; omega)) ?_ | refine Fs _ ?_)))), (by (repeat' refine And.intro ?_ ?_) <;> (repeat (first | with_reducible assumption | (simp; done) | (with_reducible first | refine Kd ?_ | refine Kn ?_ | refine Kb (by assumption) ?_) | ((with_reducible first | refine Kw ?_ ?_ | refine Fw ?_) <;> first | with_reducible rfl | (simp; done)) | (with_reducible first | refine Ka _ ?_ | refine Ks _ (by first | exact Nat.le_refl _ | omega | (simp; done) | (simp; omega)) ?_ | refine Fd ?_ | refine Fn ?_ | refine Fb (by assumption) (by first | exact Nat.le_refl _ | omega | (simp; done) | (simp; omega)) ?_ | refine Fa _ (by first | exact Nat.le_refl _ | omega | (simp; done) | (simp; omega)) ?_ | refine Fs _ ?_)))), (by (repeat' refine And.intro ?_ ?_) <;> (repeat (first | with_reducible assumption | (simp; done) | (with_reducible first | refine Kd ?_ | refine Kn ?_ | refine Kb (by assumption) ?_) | ((with_reducible first | refine Kw ?_ ?_ | refine Fw ?_) <;> first | with_reducible rfl | (simp; done)) | (with_reducible first | refine Ka _ ?_ | refine Ks _ (by first | exact Nat.le_refl _ | omega | (simp; done) | (simp; omega)) ?_ | refine Fd ?_ | refine Fn ?_ | refine Fb (by assumption) (by first | exact Nat.le_refl _ | omega | (simp; done) | (simp; omega)) ?_ | refine Fa _ (by first | exact Nat.le_refl _ | omega | (simp; done) | (simp; omega)) ?_ | refine Fs _ ?_))))⟩, (by repeat (first | (with_reducible first | exact Below.refl _ _ | assumption | refine Below.drew ?_) | ((with_reducible first | refine Lc ?_ ?_ _ | refine Ls ?_ ?_ _ | refine Lv (by assumption) ?_ ?_); · first | exact Nat.le_refl _ | omega | (dsimp only; omega) | (simp only [World.size_alloc, World.size_drew, World.heap_drewN]; omega) | (simp; omega)))), by simp⟩ ?_
  rintro w3 ⟨hx3, hb3, hs3⟩
  have HR3 := Lib.hid (HR2.out.on hb3)
  have HX3 := Lib.hid (HX2.out.later hb3)
  have HB3 := Lib.hid (HB2.out.trans (hb3.mono hs2))
  have HA3 := Lib.hid hx3
  have hs3' := HB3.out.size
  obtain ⟨rx, hrx⟩ : ∃ rx, rx = w2.heap.size := ⟨_, rfl⟩
  rw [← hrx] at hs3 hs2 HA3
  rw [← hrx]
  clear hb3 HR2 HB2 HX2 hrx hx3
  go_wp2_with fail
  refine (fill_any W.heap.size tA tn tc _ hs3' (HBY2.out.later HB3.out)).mono ?_
  rintro e w4 ⟨qb, rfl, hqb, hb4, hch⟩
  have HB4 := Lib.hid (HB3.out.trans (hb4.mono hs3'))
  have HC4 := Lib.hid hch
  have hql : qb < w4.heap.size := by
    obtain ⟨u, z, _, h⟩ := hch
    exact h.lt
  have hs4 := hb4.size
  have HRK : Hid (∀ w', w4.grownBy w' (some qb) → RowIx w' rx r) := Lib.hid (fun w' hg => by
    have hbb : Below w3.heap.size w3 w' := hb4.trans (gb_below hg hs4 hqb)
    exact ⟨bA, dA, vA, bc, dc, vc, HA3.out.later hbb, HR3.out.on hbb⟩)
  have HXK : Hid (∀ w', w4.grownBy w' (some qb) → IntRow w' w'.heap.size xA r.n X) := Lib.hid (fun w' hg => HX3.out.later (hb4.trans (gb_below hg hs4 hqb)))
  have HLK : Hid (∀ w', w4.grownBy w' (some qb) → Below W.heap.size W w') := Lib.hid (fun w' hg => HB4.out.trans (gb_below hg (by omega) (by omega)))
  have HXS : Hid (∀ k, k < r.n → ∃ b o, xA = some ⟨b, o, none⟩ ∧ b ≠ qb) := Lib.hid (fun k hk => by
    obtain ⟨b, o, h1, h2, _⟩ := HX3.out k hk
    exact ⟨b, o, h1, by omega⟩)
  clear hb4 hch HR3 HX3 HB3 HA3 HBY2
  have HG4 : Hid (w4.grownBy w4 (some qb)) := Lib.hid ⟨rfl, rfl, rfl, Nat.le_refl _, fun _ _ _ => rfl⟩
  obtain ⟨_, _, _, _, _, _, ⟨c0, c1, c2⟩, hr⟩ := HRK.out _ HG4.out
  go_wp2_with fail
  refine (Fits_any r HOK.out X (fun k hk => by have := HXB.out k hk; omega) xA xc hxc _ _ _ _ _ _ _ hr (HXK.out _ HG4.out)).mono ?_
  rintro e w5 ⟨rfl, hb5⟩
  rw [Rw.fitsB_iff.2 HFX.out]
  have HG5 := Lib.hid (gb_of_below qb hb5)
  have HC5 := Lib.hid (HC4.out.later hb5)
  have hs5 := hb5.size
  clear hb5 c0 c1 c2 hr
  obtain ⟨_, _, _, _, _, _, ⟨c0, c1, c2⟩, hr⟩ := HRK.out _ HG5.out
  go_wp2_with fail
  refine (Truth_any r (Rw.fit_zero HOK.out HRD.out) _ _ _ _ _ _ _ hr).mono ?_
  rintro e w6 ⟨sA, sc, rfl, hos, hb6⟩
  obtain ⟨sA', sc', he, hos, hsc⟩ := ownInt_of hos
  injection he with he1 he2 he3
  subst he1 he3
  have HS6 := Lib.hid hos
  have HG6 := Lib.hid (gb_trans HG5.out (gb_of_below qb hb6))
  have HC6 := Lib.hid (HC5.out.later hb6)
  have hs6 := hb6.size
  clear hos hb6 he2 c0 c1 c2 hr
  obtain ⟨_, _, _, _, _, _, ⟨c0, c1, c2⟩, hr⟩ := HRK.out _ HG6.out
  go_wp2_with fail
  refine (Fits_any r HOK.out (byPre (r.search.1.L 0)) (Rw.truth_bd HOK.out HRD.out) sA sc hsc _ _ _ _ _ _ _ hr HS6.out.row).mono ?_
  rintro e w7 ⟨rfl, hb7⟩
  rw [Rw.fitsB_iff.2 (Rw.truth_fits HOK.out HRD.out)]
  have HG7 := Lib.hid (gb_trans HG6.out (gb_of_below qb hb7))
  have HS7 := Lib.hid (HS6.out.later hb7)
  have hs7 := HG7.out.size
  have HC7 := Lib.hid (HC6.out.later hb7)
  clear hb7 c0 c1 c2 hr HG6 HS6 HG5
  go_upto_block 0 with fail
  obtain ⟨w8, hw8⟩ : ∃ w8, w8 = w7.alloc (.cells #[.slice xA r.n xc, .slice sA r.n sc] 31) := ⟨_, rfl⟩
  rw [← hw8]
  have hb8 : Below w7.heap.size w7 w8 := hw8 ▸ ((Below.refl _ _).alloc (Nat.le_refl _) _)
  have HT8 : Hid (TlAt w4 w8 W.heap.size qb tA tn tc r (.slice (some ⟨w7.heap.size, 0, none⟩) 2 2) 2 [.slice xA r.n xc, .slice sA r.n sc]) := Lib.hid ⟨⟨rfl, .inr ⟨w7.heap.size, 2, #[.slice xA r.n xc, .slice sA r.n sc], rfl, hs7, by rw [hw8]; exact Array.getElem?_push_size, Nat.le_refl _, by unfold maxLen; omega, rfl, rfl⟩⟩, fun x hx => by
    simp only [List.mem_cons, List.not_mem_nil, or_false] at hx
    rcases hx with rfl | rfl
    · refine ⟨xA, xc, X, rfl, hxc, fun k hk => ?_, HFX.out, fun k hk => by have := HXB.out k hk; omega⟩
      obtain ⟨b, o, h1, h2, h3⟩ := (HXK.out _ HG7.out) k hk
      obtain ⟨b', o', h1', h2'⟩ := HXS.out k hk
      rw [h1] at h1'
      injection h1' with h1'
      injection h1' with e1 e2
      subst e1
      exact ⟨b, o, h1, ⟨h2', fun e => by have e' : w7.heap.size = b := (by injection e); omega⟩, Kb hb8 h3⟩
    · refine ⟨sA, sc, byPre (r.search.1.L 0), rfl, hsc, fun k hk => ?_, Rw.truth_fits HOK.out HRD.out, Rw.truth_bd HOK.out HRD.out⟩
      obtain ⟨b, h1, h2, h3, _⟩ := HS7.out k hk
      have hlt := World.block_lt_of_cell? w7 _ h3
      dsimp only at hlt
      exact ⟨b, 0, h1, ⟨by omega, fun e => by have e' : w7.heap.size = b := (by injection e); omega⟩, by rw [Nat.zero_add]; exact Kb hb8 h3⟩, HC7.out.later hb8, gb_trans HG7.out (gb_of_below qb hb8), ⟨hql, by omega⟩⟩
  clear hw8 hb8 HS7 HC7 HG7 HC4 HC5 HC6 HXS
  refine told_loop0 r HOK X HXB rx xA xc W.heap.size qb tA tn tc hln2 w4 HRK HXK _ _ w8 HT8 _ ?_
  intro x4 x15 x16 x17 x81 x82 x83 x84 x85 x86 x87 x88 x89 x90 x91 x92 x93 x94 x95 x96 x97 x98 x99 x100 x101 x102 x103 x104 x105 x106 x107 x108 x109 x110 x111 x112 x113 x114 m lA lc w9 hm7 HG9 HL9
  obtain ⟨_, _, _, _, _, _, ⟨c0, c1, c2⟩, hr⟩ := HRK.out _ HG9.out
  go_wp2_with fail
  refine (pairs_any _ r.n _ _ _ hn6 ⟨_, _, _, rfl⟩ ⟨_, _, _, rfl⟩ _).mono ?_
  rintro e w10 ⟨pA, pc, m2, P, rfl, hm36, hPP, hpr, hb10⟩
  have HPR := Lib.hid hpr
  have HPP := Lib.hid hPP
  have HG10 := Lib.hid (gb_trans HG9.out (gb_of_below qb hb10))
  have HL10 := Lib.hid (HL9.out.later hb10)
  have HR10 := Lib.hid (HRK.out _ HG10.out)
  clear hpr hPP hb10 HG9 HL9 hr c0 c1 c2
  go_upto_block 4 with fail
  refine told_loop4 r HOK HRD rx lA m hm7 lc pA m2 P hm36 HPP pc w10 HPR HR10 HL10 _ ?_
  intro y4 y19 y20 y21 y22 y23 y24 y25 y26 y27 y28 y29 y30 y31 y32 y33 y34 y118 y119 y120 y121 y122 y123 y124 y125 y126 y127 y128 y129 y130 y131 y132 y133 y134 y135 y136 y137 y138 y139 y140 y141 y142 y143 y144 y145 y146 y147 y148 y149 y150 y151 y152 y153 y154 y155 y156 y157 y158 y159 y160 y161 y162 y163 y164 y165 y166 y167 y168 y169 y170 y171 y172 y173 y174 y175 y176 y177 y178 y179 y180 y181 y182 y183 y184 y185 y186 y187 y188 y189 y190 y191 y192 y193 y194 y195 y196 y197 y198 y199 y200 y201 y202 y203 y204 y205 y206 y207 y208 y209 y210 y211 y212 y213 y214 y215 y216 y217 y218 y219 y220 y221 y222 y223 y224 y225 y226 y227 y228 y229 y230 y231 w11 hb11
  have HB11 := Lib.hid ((HLK.out _ HG10.out).trans (hb11.out.mono (HLK.out _ HG10.out).size))
  clear hb11 HG10 HL10 HR10 HPR
  go_wp2_with fail
  refine (awake_any _).mono ?_
  rintro e w12 ⟨rfl, hb⟩
  have Hc := Lib.hid (HB11.out.trans (hb.mono HB11.out.size))
  clear hb
  go_wp2_with fail
  go_ret
  exact ⟨rfl, Hc.out⟩
end Go.Proofs.YtnnikeolgknfoaaGreat

set_option linter.unusedSimpArgs false
set_option linter.unusedVariables false
namespace Go.Proofs.YtnnikeolgknfoaaGreat
open Go.ChangeShapes Go.WideShapes Go.ChangeAt Go.RowKit

set_option maxRecDepth 100000 in
set_option maxHeartbeats 1000000 in
theorem told_lifted (os : Os) (started : os.Started) (H : Type) (enc : TypeId × Value → H) :
    ReturnsInHanded {} Tryz.checked os 10 .any (Rows.binToldSpec.pre6 enc Tryz.prog Tryz.f10 Rows.binToldRow.domain false) (Rows.binToldSpec.post enc Tryz.prog Tryz.f10 false true false false) := by
  refine returnsInHanded_of_change (C := Tryz.checked) own_knob started (by kernel_rfl) Tryz.func10
    (ChangeSpec.witness6 (enc := enc) (C := Tryz.checked) false ⟨#[], #[.slice none 0 0, .slice none 0 0], []⟩ 8 (by kernel_rfl) (by kernel_rfl) (by kernel_rfl) (by kernel_rfl)) ?_
  intro W base args ds gs before hval0 hW hcnd _
  have hval : ∀ (j : Nat) t v, Tryz.f10.params[j]? = some t → args[j]? = some v → Value.okWide Tryz.prog W .any base t v := hval0
  have hW' := hW
  obtain ⟨p, q, hA0, hV, rfl, hfz, hnd⟩ := hW
  have hA : DataW.TrodAll enc Tryz.prog W 0 (fun _ => true) true Tryz.f10.params.toList args.toList ds p := hA0
  rw [Tryz.params10] at hA hval
  obtain ⟨v0, v1, d0, d1, p0, p1, rfl, rfl, rfl, h0, h1⟩ := trodAll_two hA
  obtain ⟨rfl, rfl⟩ := trodVars_none hV
  obtain ⟨a0, n0, c0, rfl⟩ := okWide_slice Tryz.underlying92 (hval 0 92 v0 rfl rfl)
  have h0k := h0
  obtain ⟨f0, g0⟩ := h0
  obtain ⟨A, n, c, hv, hby0, hmx0⟩ := open_bytes (v := .slice a0 n0 c0) g0
  injection hv with hv1 hv2 hv3
  subst hv1 hv2 hv3
  obtain ⟨a1, n1, c1, rfl⟩ := okWide_slice Tryz.underlying92 (hval 1 92 v1 rfl rfl)
  have h1k := h1
  obtain ⟨f1, g1⟩ := h1
  obtain ⟨A, n, c, hv, hby1, hmx1⟩ := open_bytes (v := .slice a1 n1 c1) g1
  injection hv with hv1 hv2 hv3
  subst hv1 hv2 hv3
  clear hA0 hval0
  simp only [List.append_nil] at hW'
  have hlt0 : ∀ x ∈ p0, x.block < W.heap.size := fun x hx => hW'.lt x (by simp [hx])
  have hlt1 : ∀ x ∈ p1, x.block < W.heap.size := fun x hx => hW'.lt x (by simp [hx])
  refine (told_law a0 n0 c0 a1 n1 c1 W hby0 (by unfold maxLen at hmx0; omega) hby1 (by unfold maxLen at hmx1; omega)).mono fun e W' ⟨he, bel⟩ => ?_
  subst he
  exact ⟨_, rfl, _, _, _, [], _, [], hW', trodAll_mk1 (shut_bool Tryz.underlying4 true),
    trodAll_mk2 (Below.trod laid_out (by kernel_rfl) (of_decide_eq_true (by kernel_rfl)) h0k bel hlt0) (Below.trod laid_out (by kernel_rfl) (of_decide_eq_true (by kernel_rfl)) h1k bel hlt1), rfl, bel.frame _, fun h => by cases h⟩

theorem bin_told_holds : Rows.BinToldSaid :=
  OpenClaim.holds_of_wide 10 Tryz.f10 rfl rfl rfl rfl rfl rfl rfl ⟨rfl, rfl, rfl, rfl, rfl⟩ rfl rfl rfl rfl rfl (by kernel_rfl) Tryz.func10 (by kernel_rfl)
    (of_decide_eq_true (by kernel_rfl)) (by unfold Func.isWrapper; first | (rw [if_pos (by decide +kernel)]; kernel_rfl) | (rw [if_neg (by decide +kernel)]; exact ⟨rfl, rfl⟩))
    (fun os started H enc _ => told_lifted os started H enc)
#print axioms bin_told_holds
end Go.Proofs.YtnnikeolgknfoaaGreat
