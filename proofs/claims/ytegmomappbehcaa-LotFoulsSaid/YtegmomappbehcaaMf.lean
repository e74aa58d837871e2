/- The law LotFouls, walked. -/
import Derived.Test.YtegmomappbehcaaLc
import Derived.Test.YtegmomappbehcaaTf
import Derived.Test.YtegmomappbehcaaVa
import Derived.Test.YtegmomappbehcaaVb
set_option linter.unusedSimpArgs false
set_option linter.unusedVariables false
namespace Go.Proofs.Ytegmomappbehcaa
open Go.RowKit Go.Shelf

/-- what LotFouls carries -/
structure FoulsAt (W w : World) (st : St) (b1 b2 : Nat) (pA gA pA1 gA1 pA2 gA2 : Option Addr) (pc gc pc1 gc1 pc2 gc2 : Nat) (lA mA fA iA : Option Addr) (ln fn gn : Nat) (X F G : Nat → Int) : Prop where
  q : LawAt w st W.heap.size b1 b2 pA gA pA1 gA1 pA2 gA2 pc gc pc1 gc1 pc2 gc2
  l0 : IntRow w w.heap.size lA ln X
  l1 : IntRow w w.heap.size mA ln X
  l2 : IntRow w w.heap.size fA fn F
  l3 : IntRow w w.heap.size iA gn G
  b : Below W.heap.size W w
theorem FoulsAt.later {W w w' : World} {st : St} {b1 b2 : Nat} {pA gA pA1 gA1 pA2 gA2 : Option Addr} {pc gc pc1 gc1 pc2 gc2 : Nat} {lA mA fA iA : Option Addr} {ln fn gn : Nat} {X F G : Nat → Int} (h : FoulsAt W w st b1 b2 pA gA pA1 gA1 pA2 gA2 pc gc pc1 gc1 pc2 gc2 lA mA fA iA ln fn gn X F G) (hb : Below w.heap.size w w') : FoulsAt W w' st b1 b2 pA gA pA1 gA1 pA2 gA2 pc gc pc1 gc1 pc2 gc2 lA mA fA iA ln fn gn X F G :=
  ⟨h.q.later hb, h.l0.later hb, h.l1.later hb, h.l2.later hb, h.l3.later hb, h.b.trans (hb.mono h.b.size)⟩
/-! ### A function cut at a region of its own spine -/
def fromReg (n : Nat) : Code → Code
  | .seq (.region m ops b) y => match Nat.beq m n with
    | true => .seq (.region m ops b) y
    | false => fromReg n y
  | .seq _ y => fromReg n y
  | c => c
def hdOf : Code → Code
  | .seq a _ => a
  | c => c
def tlOf : Code → Code
  | .seq _ b => b
  | c => c

/-- the truth that Bad tells is possible -/
theorem St.bad_poss {st : St} {X : Nat → Int} (h0 : st.askErr st.n X = 0) : st.possR st.n X st.n st.n (fun k => (st.P k).hi) (fun k => (st.P k).hiOf (X k)) = (true, 0) := by
  have hok := (St.askErr_ok h0).1
  unfold St.possR
  rw [if_neg (by simp [h0]), if_neg (by simp)]
  congr 1
  refine allN_iff.2 (fun k hk => ?_)
  have h1 := hok.pk k hk
  have h2 := hok.sp k hk
  have h3 := ask_rng h0 k hk
  unfold Pk.rng at h1
  unfold posB Pk.can Pk.hiOf inB
  unfold Pk.hi at h2 ⊢
  simp only [Bool.and_eq_true, decide_eq_true_eq]
  omega
theorem St.bad_sum {st : St} {X : Nat → Int} (h0 : st.askErr st.n X = 0) : st.spanR st.n X = (st.lo (bagOf X st.n), sumN (fun k => (st.P k).hiOf (X k)) st.n, 0) := by
  have hok := (St.askErr_ok h0).1
  unfold St.spanR
  rw [if_neg (by simp [h0])]
  congr 2
  exact sumN_congr (fun k hk => by rw [bagOf_at hk (by have := hok.n4; omega)])
theorem St.span_err (st : St) (n : Nat) (X : Nat → Int) : (st.spanR n X).2.2 = st.askErr n X := by
  unfold St.spanR
  split
  · rfl
  · rename_i h; simp only [ne_eq, Decidable.not_not] at h; exact h.symm

set_option maxRecDepth 100000 in
set_option maxHeartbeats 0 in
/-- from the copies of the truth on -/
theorem fouls_rest2 (st : St) (b1 b2 : Nat) (pA gA pA1 gA1 pA2 gA2 : Option Addr) (pc gc pc1 gc1 pc2 gc2 : Nat) (lA mA fA iA : Option Addr) (ln fn gn lc mc fc ic : Nat) (X F G : Nat → Int) (W : World) (h1 : st.n ≤ 6) (h2 : st.m ≤ 6) (h3 : ln ≤ 8) (h4 : fn ≤ 8) (h5 : gn ≤ 8) (w2 : World) (H2 : Hid (FoulsAt W w2 st b1 b2 pA gA pA1 gA1 pA2 gA2 pc gc pc1 gc1 pc2 gc2 lA mA fA iA ln fn gn X F G)) {u0 u5 u6 u7 u8 u12 u13 u14 u15 u16 u17 u18 u19 u20 u21 u22 u23 u24 u25 u26 u27 u28 u29 u30 u31 u32 u33 u34 u35 u36 u37 u38 u39 u40 u41 u42 u43 u44 u45 u46 u47 u48 u49 u50 u51 u52 u53 u54 u55 u56 u57 u58 u59 u60 u61 u62 u63 u64 u65 u66 u67 u68 u69 u70 u71 u72 u73 u74 u75 u76 u77 u78 u79 u80 u81 u82 u83 u84 u85 u86 u87 u88 u89 u90 u91 u92 u93 u94 u95 u96 u97 u98 u99 u100 u101 u102 u103 u104 u105 u106 u107 u108 u109 u110 u111 u112 u113 u114 u115 u116 u117 u118 u119 u120 u121 u122 u123 u124 u125 u126 u127 u128 u129 u130 u131 u132 u133 u134 u135 u136 u137 u138 u139 u140 u141 u142 u143 u144 u145 u146 u147 u148 u149 u150 u151 u152 u153 u154 u155 u156 u157 u158 u159 u160 u161 u162 u163 u164 u165 u166 u167 u168 u169 u170 u171 u172 u173 u174 u175 u176 u177 u178 u179 u180 u181 u182 u183 u184 u185 u186 u187 u188 u189 u190 u191 u192 u193 u194 u195 u196 u197 u198 u199 u200 u201 u202 u203 u204 u205 u206 u207 u208 u209 u210 u211 u212 u213 u214 u215 u216 u217 : Value}
    (K : Act → World → Prop) (hK : ∀ a w, Code.wp Try.prog (tlOf (fromReg 21 (Try.f14.body.getD .skip))) (bodyPost Try.prog Try.f14 fun e W' => e = .returned (.bool true) ∧ Below W.heap.size W W') a w → K a w) :
    Code.wp Try.prog (hdOf (fromReg 21 (Try.f14.body.getD .skip))) (Exit.then K (bodyPost Try.prog Try.f14 fun e W' => e = .returned (.bool true) ∧ Below W.heap.size W W')) ⟨(List.toArray (u0 :: (.slice lA ln lc) :: (.slice fA fn fc) :: (.slice iA gn ic) :: (.pointer (some ⟨W.heap.size, 0, none⟩)) :: u5 :: u6 :: u7 :: u8 :: (.pointer (some ⟨b1, 0, none⟩)) :: (.slice mA ln mc) :: (.pointer (some ⟨b2, 0, none⟩)) :: u12 :: u13 :: u14 :: u15 :: u16 :: u17 :: u18 :: u19 :: u20 :: u21 :: u22 :: u23 :: u24 :: u25 :: u26 :: u27 :: u28 :: u29 :: u30 :: u31 :: u32 :: u33 :: u34 :: u35 :: u36 :: u37 :: u38 :: u39 :: u40 :: u41 :: u42 :: u43 :: u44 :: u45 :: u46 :: u47 :: u48 :: u49 :: u50 :: u51 :: u52 :: u53 :: u54 :: u55 :: u56 :: u57 :: u58 :: u59 :: u60 :: u61 :: u62 :: u63 :: u64 :: u65 :: u66 :: u67 :: u68 :: u69 :: u70 :: u71 :: u72 :: u73 :: u74 :: u75 :: u76 :: u77 :: u78 :: u79 :: u80 :: u81 :: u82 :: u83 :: u84 :: u85 :: u86 :: u87 :: u88 :: u89 :: u90 :: u91 :: u92 :: u93 :: u94 :: u95 :: u96 :: u97 :: u98 :: u99 :: u100 :: u101 :: u102 :: u103 :: u104 :: u105 :: u106 :: u107 :: u108 :: u109 :: u110 :: u111 :: u112 :: u113 :: u114 :: u115 :: u116 :: u117 :: u118 :: u119 :: u120 :: u121 :: u122 :: u123 :: u124 :: u125 :: u126 :: u127 :: u128 :: u129 :: u130 :: u131 :: u132 :: u133 :: u134 :: u135 :: u136 :: u137 :: u138 :: u139 :: u140 :: u141 :: u142 :: u143 :: u144 :: u145 :: u146 :: u147 :: u148 :: u149 :: u150 :: u151 :: u152 :: u153 :: u154 :: u155 :: u156 :: u157 :: u158 :: u159 :: u160 :: u161 :: u162 :: u163 :: u164 :: u165 :: u166 :: u167 :: u168 :: u169 :: u170 :: u171 :: u172 :: u173 :: u174 :: u175 :: u176 :: u177 :: u178 :: u179 :: u180 :: u181 :: u182 :: u183 :: u184 :: u185 :: u186 :: u187 :: u188 :: u189 :: u190 :: u191 :: u192 :: u193 :: u194 :: u195 :: u196 :: u197 :: u198 :: u199 :: u200 :: u201 :: u202 :: u203 :: u204 :: u205 :: u206 :: u207 :: u208 :: u209 :: u210 :: u211 :: u212 :: u213 :: u214 :: u215 :: u216 :: u217 :: [])), []⟩ w2 := by
  (conv => arg 2; whnf); (obtain ⟨y, hy⟩ : ∃ y, tlOf (fromReg 21 (Try.f14.body.getD .skip)) = y := ⟨_, rfl⟩); rw [hy] at hK; (conv at hy => lhs; whnf); subst hy
  go_wp2_with fail
  refine (copy_int fA fn fc F _ H2.out.l2 (by omega)).mono ?_
  rintro e w3 ⟨hb, oA, oc, rfl, hro, hoc⟩
  have H3 := Lib.hid (H2.out.later hb)
  have HO3 := Lib.hid hro.row
  clear hb hro H2
  go_wp2_with fail
  refine (copy_int iA gn ic G _ H3.out.l3 (by omega)).mono ?_
  rintro e w4 ⟨hb, tA, tc, rfl, hrt, htc⟩
  have H4 := Lib.hid (H3.out.later hb)
  have HO4 := Lib.hid (HO3.out.later hb)
  have HT4 := Lib.hid hrt.row
  clear hb hrt H3 HO3
  obtain ⟨o0, o1, o2⟩ := H4.out.q.s1
  go_wp2_with fail
  refine (Possible_any st _ pA1 gA1 pc1 gc1 mA ln mc X oA fn oc F tA gn tc G _ H4.out.q.r1 H4.out.l1 (by omega) HO4.out HT4.out).mono ?_
  rintro e w5 ⟨rfl, hb⟩
  have H5 := Lib.hid (H4.out.later hb)
  have HO5 := Lib.hid (HO4.out.later hb)
  have HT5 := Lib.hid (HT4.out.later hb)
  clear hb o0 o1 o2 H4 HO4 HT4
  obtain ⟨t0, t1, t2⟩ := H5.out.q.s2
  go_wp2_with fail
  refine (rPossible_any st _ pA2 gA2 pc2 gc2 lA ln lc X fA fn fc F iA gn ic G _ H5.out.q.r2 H5.out.l0 (by omega) H5.out.l2 H5.out.l3).mono ?_
  rintro e w6 ⟨rfl, hb⟩
  have H6 := Lib.hid (H5.out.later hb)
  have HO6 := Lib.hid (HO5.out.later hb)
  have HT6 := Lib.hid (HT5.out.later hb)
  clear hb t0 t1 t2 H5 HO5 HT5
  generalize st.possR ln X fn gn F G = pr
  have hp1 : (pr.1 != pr.1) = false := by simp
  have hp2 : (pr.2 != pr.2) = false := by simp
  obtain ⟨o0, o1, o2⟩ := H6.out.q.s1
  go_wp2_with fail
  refine (Sure_any st _ pA1 gA1 pc1 gc1 mA ln mc X _ H6.out.q.r1 H6.out.l1 (by omega)).mono ?_
  rintro e w7 ⟨rfl, hb⟩
  have H7 := Lib.hid (H6.out.later hb)
  have HO7 := Lib.hid (HO6.out.later hb)
  have HT7 := Lib.hid (HT6.out.later hb)
  clear hb o0 o1 o2 H6 HO6 HT6 hp1 hp2
  obtain ⟨t0, t1, t2⟩ := H7.out.q.s2
  go_wp2_with fail
  refine (rSure_any st _ pA2 gA2 pc2 gc2 lA ln lc X _ H7.out.q.r2 H7.out.l0 (by omega)).mono ?_
  rintro e w8 ⟨rfl, hb⟩
  have H8 := Lib.hid (H7.out.later hb)
  have HO8 := Lib.hid (HO7.out.later hb)
  have HT8 := Lib.hid (HT7.out.later hb)
  clear hb t0 t1 t2 H7 HO7 HT7
  generalize st.sureR ln X = sr
  have hp1 : (sr.1 != sr.1) = false := by simp
  have hp2 : (sr.2 != sr.2) = false := by simp
  obtain ⟨o0, o1, o2⟩ := H8.out.q.s1
  go_wp2_with fail
  refine (Brings_any st _ pA1 gA1 pc1 gc1 mA ln mc X _ H8.out.q.r1 H8.out.l1 (by omega)).mono ?_
  rintro e w9 ⟨rfl, hb⟩
  have H9 := Lib.hid (H8.out.later hb)
  have HO9 := Lib.hid (HO8.out.later hb)
  have HT9 := Lib.hid (HT8.out.later hb)
  clear hb o0 o1 o2 H8 HO8 HT8 hp1 hp2
  obtain ⟨t0, t1, t2⟩ := H9.out.q.s2
  go_wp2_with fail
  refine (rBrings_any st _ pA2 gA2 pc2 gc2 lA ln lc X _ H9.out.q.r2 H9.out.l0 (by omega)).mono ?_
  rintro e wa ⟨rfl, hb⟩
  have Ha := Lib.hid (H9.out.later hb)
  have HOa := Lib.hid (HO9.out.later hb)
  have HTa := Lib.hid (HT9.out.later hb)
  clear hb t0 t1 t2 H9 HO9 HT9
  generalize st.bringsR ln X = br
  have hp1 : (br.1 == br.1) = true := by simp
  have hp2 : (br.2 == br.2) = true := by simp
  obtain ⟨o0, o1, o2⟩ := Ha.out.q.s1
  obtain ⟨t0, t1, t2⟩ := Ha.out.q.s0
  go_wp2_with fail
  refine (same_any st _ _ pA1 gA1 pA gA pc1 gc1 pc gc _ Ha.out.q.r1 Ha.out.q.r0).mono ?_
  rintro e wb ⟨rfl, hb⟩
  have Hb := Lib.hid (Ha.out.later hb)
  have HOb := Lib.hid (HOa.out.later hb)
  have HTb := Lib.hid (HTa.out.later hb)
  clear hb o0 o1 o2 t0 t1 t2 Ha HOa HTa hp1 hp2
  go_wp2_with fail
  refine (alike_int mA lA ln ln mc lc X X _ Hb.out.l1 Hb.out.l0 (by omega)).mono ?_
  rintro e wc ⟨rfl, hb⟩
  rw [alln_int, decide_eq_true rfl]
  have Hc := Lib.hid (Hb.out.later hb)
  have HOc := Lib.hid (HOb.out.later hb)
  have HTc := Lib.hid (HTb.out.later hb)
  clear hb Hb HOb HTb
  go_wp2_with fail
  refine (alike_int oA fA fn fn oc fc F F _ HOc.out Hc.out.l2 (by omega)).mono ?_
  rintro e wd ⟨rfl, hb⟩
  rw [alln_int, decide_eq_true rfl]
  have Hd := Lib.hid (Hc.out.later hb)
  have HTd := Lib.hid (HTc.out.later hb)
  clear hb Hc HOc HTc
  go_wp2_with fail
  refine (alike_int tA iA gn gn tc ic G G _ HTd.out Hd.out.l3 (by omega)).mono ?_
  rintro e we ⟨rfl, hb⟩
  rw [alln_int, decide_eq_true rfl]
  have He := Lib.hid (Hd.out.later hb)
  clear hb Hd HTd
  go_wp2_with fail
  refine (awake_any _).mono ?_
  rintro e wf ⟨rfl, hb⟩
  have Hf := Lib.hid (He.out.b.trans (hb.mono He.out.b.size))
  clear hb He
  go_wp2_with fail
  go_ret
  exact ⟨rfl, Hf.out⟩

set_option maxRecDepth 100000 in
set_option maxHeartbeats 0 in
/-- from the span on -/
theorem fouls_rest1 (st : St) (b1 b2 : Nat) (pA gA pA1 gA1 pA2 gA2 : Option Addr) (pc gc pc1 gc1 pc2 gc2 : Nat) (lA mA fA iA : Option Addr) (ln fn gn lc mc fc ic : Nat) (X F G : Nat → Int) (W : World) (h1 : st.n ≤ 6) (h2 : st.m ≤ 6) (h3 : ln ≤ 8) (h4 : fn ≤ 8) (h5 : gn ≤ 8) (w2 : World) (H2 : Hid (FoulsAt W w2 st b1 b2 pA gA pA1 gA1 pA2 gA2 pc gc pc1 gc1 pc2 gc2 lA mA fA iA ln fn gn X F G)) {u0 u5 u6 u7 u8 u12 u13 u14 u15 u16 u17 u18 u19 u20 u21 u22 u23 u24 u25 u26 u27 u28 u29 u30 u31 u32 u33 u34 u35 u36 u37 u38 u39 u40 u41 u42 u43 u44 u45 u46 u47 u48 u49 u50 u51 u52 u53 u54 u55 u56 u57 u58 u59 u60 u61 u62 u63 u64 u65 u66 u67 u68 u69 u70 u71 u72 u73 u74 u75 u76 u77 u78 u79 u80 u81 u82 u83 u84 u85 u86 u87 u88 u89 u90 u91 u92 u93 u94 u95 u96 u97 u98 u99 u100 u101 u102 u103 u104 u105 u106 u107 u108 u109 u110 u111 u112 u113 u114 u115 u116 u117 u118 u119 u120 u121 u122 u123 u124 u125 u126 u127 u128 u129 u130 u131 u132 u133 u134 u135 u136 u137 u138 u139 u140 u141 u142 u143 u144 u145 u146 u147 u148 u149 u150 u151 u152 u153 u154 u155 u156 u157 u158 u159 u160 u161 u162 u163 u164 u165 u166 u167 u168 u169 u170 u171 u172 u173 u174 u175 u176 u177 u178 u179 u180 u181 u182 u183 u184 u185 u186 u187 u188 u189 u190 u191 u192 u193 u194 u195 u196 u197 u198 u199 u200 u201 u202 u203 u204 u205 u206 u207 u208 u209 u210 u211 u212 u213 u214 u215 u216 u217 : Value}
    (K : Act → World → Prop) (hK : ∀ a w, Code.wp Try.prog (tlOf (fromReg 4 (Try.f14.body.getD .skip))) (bodyPost Try.prog Try.f14 fun e W' => e = .returned (.bool true) ∧ Below W.heap.size W W') a w → K a w) :
    Code.wp Try.prog (hdOf (fromReg 4 (Try.f14.body.getD .skip))) (Exit.then K (bodyPost Try.prog Try.f14 fun e W' => e = .returned (.bool true) ∧ Below W.heap.size W W')) ⟨(List.toArray (u0 :: (.slice lA ln lc) :: (.slice fA fn fc) :: (.slice iA gn ic) :: (.pointer (some ⟨W.heap.size, 0, none⟩)) :: u5 :: u6 :: u7 :: u8 :: (.pointer (some ⟨b1, 0, none⟩)) :: (.slice mA ln mc) :: (.pointer (some ⟨b2, 0, none⟩)) :: u12 :: u13 :: u14 :: u15 :: u16 :: u17 :: u18 :: u19 :: u20 :: u21 :: u22 :: u23 :: u24 :: u25 :: u26 :: u27 :: u28 :: u29 :: u30 :: u31 :: u32 :: u33 :: u34 :: u35 :: u36 :: u37 :: u38 :: u39 :: u40 :: u41 :: u42 :: u43 :: u44 :: u45 :: u46 :: u47 :: u48 :: u49 :: u50 :: u51 :: u52 :: u53 :: u54 :: u55 :: u56 :: u57 :: u58 :: u59 :: u60 :: u61 :: u62 :: u63 :: u64 :: u65 :: u66 :: u67 :: u68 :: u69 :: u70 :: u71 :: u72 :: u73 :: u74 :: u75 :: u76 :: u77 :: u78 :: u79 :: u80 :: u81 :: u82 :: u83 :: u84 :: u85 :: u86 :: u87 :: u88 :: u89 :: u90 :: u91 :: u92 :: u93 :: u94 :: u95 :: u96 :: u97 :: u98 :: u99 :: u100 :: u101 :: u102 :: u103 :: u104 :: u105 :: u106 :: u107 :: u108 :: u109 :: u110 :: u111 :: u112 :: u113 :: u114 :: u115 :: u116 :: u117 :: u118 :: u119 :: u120 :: u121 :: u122 :: u123 :: u124 :: u125 :: u126 :: u127 :: u128 :: u129 :: u130 :: u131 :: u132 :: u133 :: u134 :: u135 :: u136 :: u137 :: u138 :: u139 :: u140 :: u141 :: u142 :: u143 :: u144 :: u145 :: u146 :: u147 :: u148 :: u149 :: u150 :: u151 :: u152 :: u153 :: u154 :: u155 :: u156 :: u157 :: u158 :: u159 :: u160 :: u161 :: u162 :: u163 :: u164 :: u165 :: u166 :: u167 :: u168 :: u169 :: u170 :: u171 :: u172 :: u173 :: u174 :: u175 :: u176 :: u177 :: u178 :: u179 :: u180 :: u181 :: u182 :: u183 :: u184 :: u185 :: u186 :: u187 :: u188 :: u189 :: u190 :: u191 :: u192 :: u193 :: u194 :: u195 :: u196 :: u197 :: u198 :: u199 :: u200 :: u201 :: u202 :: u203 :: u204 :: u205 :: u206 :: u207 :: u208 :: u209 :: u210 :: u211 :: u212 :: u213 :: u214 :: u215 :: u216 :: u217 :: [])), []⟩ w2 := by
  (conv => arg 2; whnf); (obtain ⟨y, hy⟩ : ∃ y, tlOf (fromReg 4 (Try.f14.body.getD .skip)) = y := ⟨_, rfl⟩); rw [hy] at hK; (conv at hy => lhs; whnf); subst hy
  obtain ⟨o0, o1, o2⟩ := H2.out.q.s1
  go_wp2_with fail
  refine (Span_any st _ pA1 gA1 pc1 gc1 mA ln mc X _ H2.out.q.r1 H2.out.l1 (by omega)).mono ?_
  rintro e w3 ⟨rfl, hb⟩
  have H3 := Lib.hid (H2.out.later hb)
  clear hb o0 o1 o2 H2
  obtain ⟨lr, hlr⟩ : ∃ lr, st.spanR ln X = lr := ⟨_, rfl⟩
  have HLR := Lib.hid hlr
  have HER := Lib.hid (show lr.2.2 = st.askErr ln X by rw [← hlr]; exact st.span_err ln X)
  rw [hlr]
  clear hlr
  obtain ⟨t0, t1, t2⟩ := H3.out.q.s2
  go_wp2_with fail
  have hba : Below w3.heap.size w3 (w3.alloc (.cells #[.int .i64 lr.1, .int .i64 lr.2.1] 50)) := (by repeat (first | (with_reducible exact Below.refl _ _) | (with_reducible refine Below.drew ?_) | (with_reducible refine below_drewN ?_ _) | ((with_reducible refine below_alloc ?_ ?_ _); · (first | exact Nat.le_refl _ | omega | (simp; done) | (simp; omega) | (simp at *; omega))) | ((with_reducible refine below_set ?_ ?_ _); · (first | exact Nat.le_refl _ | omega | (simp; done) | (simp; omega) | (simp at *; omega))) | ((with_reducible refine below_via (by with_reducible assumption) ?_ ?_); · (first | exact Nat.le_refl _ | omega | (simp; done) | (simp; omega) | (simp at *; omega)))))
  have HF3 := Lib.hid (show N2At (w3.alloc (.cells #[.int .i64 lr.1, .int .i64 lr.2.1] 50)) w3.heap.size lr.1 lr.2.1 from (by (repeat' refine And.intro ?_ ?_) <;> (repeat (first | (with_reducible assumption) | (simp; done) | (with_reducible refine cell_drew_of ?_) | (with_reducible refine cell_drewN_of ?_) | (with_reducible refine cell_below_of (by with_reducible assumption) ?_) | ((with_reducible refine cell_new_of ?_ ?_) <;> (first | (with_reducible rfl) | (simp; done))) | ((with_reducible refine fro_new_of ?_) <;> (first | (with_reducible rfl) | (simp; done))) | (with_reducible refine cell_alloc_of _ ?_) | (with_reducible refine cell_set_of _ (by (first | exact Nat.le_refl _ | omega | (simp; done) | (simp; omega))) ?_) | (with_reducible refine fro_drew_of ?_) | (with_reducible refine fro_drewN_of ?_) | (with_reducible refine fro_below_of (by with_reducible assumption) (by (first | exact Nat.le_refl _ | omega | (simp; done) | (simp; omega))) ?_) | (with_reducible refine fro_alloc_of _ (by (first | exact Nat.le_refl _ | omega | (simp; done) | (simp; omega))) ?_) | (with_reducible refine fro_set_of _ ?_)))))
  refine (rSpan_any st _ pA2 gA2 pc2 gc2 lA ln lc X _ (H3.out.later hba).q.r2 (H3.out.later hba).l0 (by omega)).mono ?_
  rintro e w4 ⟨rfl, hb⟩
  rw [HLR.out]
  have hl1 : (lr.1 != lr.1) = false := by simp
  have hl2 : (lr.2.1 != lr.2.1) = false := by simp
  have hl3 : (lr.2.2 != lr.2.2) = false := by simp
  have H4 := Lib.hid ((H3.out.later hba).later hb)
  have HF4 := Lib.hid (HF3.out.later hb)
  have hs4 : w3.heap.size < w4.heap.size := by have := hb.size; simp at this; omega
  clear hb hba t0 t1 t2 H3 HF3
  obtain ⟨⟨z0, z1⟩, _⟩ := HF4.out
  obtain ⟨o0, o1, o2⟩ := H4.out.q.s1
  go_upto_region 8 with fail
  have hba : Below w4.heap.size w4 (w4.alloc (.cells #[.int .i64 lr.1, .int .i64 lr.2.1] 50)) := (by repeat (first | (with_reducible exact Below.refl _ _) | (with_reducible refine Below.drew ?_) | (with_reducible refine below_drewN ?_ _) | ((with_reducible refine below_alloc ?_ ?_ _); · (first | exact Nat.le_refl _ | omega | (simp; done) | (simp; omega) | (simp at *; omega))) | ((with_reducible refine below_set ?_ ?_ _); · (first | exact Nat.le_refl _ | omega | (simp; done) | (simp; omega) | (simp at *; omega))) | ((with_reducible refine below_via (by with_reducible assumption) ?_ ?_); · (first | exact Nat.le_refl _ | omega | (simp; done) | (simp; omega) | (simp at *; omega)))))
  refine wp_world (fun W1 => FoulsAt W W1 st b1 b2 pA gA pA1 gA1 pA2 gA2 pc gc pc1 gc1 pc2 gc2 lA mA fA iA ln fn gn X F G ∧ N2At W1 w4.heap.size lr.1 lr.2.1) ⟨H4.out.later hba, (by (repeat' refine And.intro ?_ ?_) <;> (repeat (first | (with_reducible assumption) | (simp; done) | (with_reducible refine cell_drew_of ?_) | (with_reducible refine cell_drewN_of ?_) | (with_reducible refine cell_below_of (by with_reducible assumption) ?_) | ((with_reducible refine cell_new_of ?_ ?_) <;> (first | (with_reducible rfl) | (simp; done))) | ((with_reducible refine fro_new_of ?_) <;> (first | (with_reducible rfl) | (simp; done))) | (with_reducible refine cell_alloc_of _ ?_) | (with_reducible refine cell_set_of _ (by (first | exact Nat.le_refl _ | omega | (simp; done) | (simp; omega))) ?_) | (with_reducible refine fro_drew_of ?_) | (with_reducible refine fro_drewN_of ?_) | (with_reducible refine fro_below_of (by with_reducible assumption) (by (first | exact Nat.le_refl _ | omega | (simp; done) | (simp; omega))) ?_) | (with_reducible refine fro_alloc_of _ (by (first | exact Nat.le_refl _ | omega | (simp; done) | (simp; omega))) ?_) | (with_reducible refine fro_set_of _ ?_))))⟩ ?_
  clear hba z0 z1 o0 o1 o2 H4 HF4
  rintro w5 ⟨hq5, hf5⟩
  have H5 := Lib.hid hq5
  have HF5 := Lib.hid hf5
  clear hq5 hf5
  obtain ⟨o0, o1, o2⟩ := H5.out.q.s1
  go_wp2_with fail
  refine (Bad_any st _ pA1 gA1 pc1 gc1 mA ln mc X _ H5.out.q.r1 H5.out.l1 (by omega)).mono ?_
  rintro e w6 ⟨hb, hp⟩
  have H6 := Lib.hid (H5.out.later hb)
  have HF6 := Lib.hid (HF5.out.later hb)
  clear hb o0 o1 o2 H5 HF5
  rw [← HER.out] at hp
  rcases hp with ⟨h0, A, c, A2, c2, rfl, hr1, hr2, hc1, hc2⟩ | ⟨h0, rfl⟩
  · have h0' := h0
    rw [HER.out] at h0'
    obtain rfl : ln = st.n := (St.askErr_ok h0').2.2
    have H0 := Lib.hid h0'
    have HR1 := Lib.hid hr1
    have HR2 := Lib.hid hr2
    have HSUM := Lib.hid (show lr.2.1 = sumN (fun k => (st.P k).hiOf (X k)) st.n by rw [← HLR.out, St.bad_sum h0'])
    have hne : ((0 : Int) != lr.2.2) = false := by rw [h0]; rfl
    clear h0 h0' hr1 hr2
    obtain ⟨t0, t1, t2⟩ := H6.out.q.s2
    go_wp2_with fail
    refine (rPossible_any st _ pA2 gA2 pc2 gc2 lA st.n lc X A st.n c _ A2 st.n c2 _ _ H6.out.q.r2 H6.out.l0 (by omega) HR1.out HR2.out).mono ?_
    rintro e w7 ⟨rfl, hb⟩
    rw [St.bad_poss H0.out]
    have H7 := Lib.hid (H6.out.later hb)
    have HF7 := Lib.hid (HF6.out.later hb)
    have HR7 := Lib.hid (HR2.out.later hb)
    clear hb t0 t1 t2 H6 HF6 HR1 HR2
    have HX := Lib.hid (ask_rng H0.out)
    have HST := Lib.hid (St.askErr_ok H0.out).1
    have hn4 := HST.out.n4
    have HBD : Hid (∀ k, k ≤ st.n → 0 ≤ sumN (fun k => (st.P k).hiOf (X k)) k ∧ sumN (fun k => (st.P k).hiOf (X k)) k ≤ 6 * (k : Int)) := Lib.hid (fun k hk => sumN_bd2 _ k 6 (fun j hj => by
      have h1 := HX.out j (by omega)
      have h2 := Pk.hi_bd (HST.out.pk j (by omega))
      have h3 := (HST.out.pk j (by omega)).1
      show 0 ≤ min (X j) (st.P j).hi ∧ min (X j) (st.P j).hi ≤ 6
      omega))
    go_wp2_with fail
    go_loopw [20, 107] (fun v i wr => ∃ k : Nat, k ≤ st.n ∧ i = .int .i64 k ∧ v = .int .i64 (sumN (fun k => (st.P k).hiOf (X k)) k) ∧ wr = w7) (fun _ i _ => st.n - (intOf i).toNat)
    case atStart => exact ⟨0, Nat.zero_le _, rfl, rfl, rfl⟩
    case round =>
      obtain ⟨k, hk, rfl, rfl, rfl⟩ := hrel
      by_cases hlt : k < st.n
      · obtain ⟨b, o, rfl, hbl, c0⟩ := HR7.out k hlt
        have hk0 : (0 : Int) ≤ (k : Int) := by omega
        have hkn : (k : Int) < (st.n : Int) := by omega
        have hb1 := HBD.out (k + 1) hlt
        have hb2 := HBD.out k (by omega)
        have ew : IntKind.i64.wrap (sumN (fun k => (st.P k).hiOf (X k)) k + (st.P k).hiOf (X k)) = sumN (fun k => (st.P k).hiOf (X k)) (k + 1) := IntWalk.i64_in _ (by
          have : sumN (fun k => (st.P k).hiOf (X k)) (k + 1) = sumN (fun k => (st.P k).hiOf (X k)) k + (st.P k).hiOf (X k) := rfl
          omega)
        clear hb1 hb2
        go_wp2_with fail
        go_roundw
        case rel => exact ⟨k + 1, by omega, by go_num, rfl, trivial⟩
        case measure => simp [intOf]; omega
      · have hke : k = st.n := by omega
        have hge : ¬ (k : Int) < (st.n : Int) := by omega
        obtain ⟨⟨z0, z1⟩, _⟩ := HF7.out
        have HS2 := HSUM.out
        rw [← hke] at HS2
        rw [HS2] at z1
        clear hke HS2
        have hq1 : (sumN (fun k => (st.P k).hiOf (X k)) k != sumN (fun k => (st.P k).hiOf (X k)) k) = false := by simp
        go_upto_region 21 with fail
        exact fouls_rest2 st b1 b2 pA gA pA1 gA1 pA2 gA2 pc gc pc1 gc1 pc2 gc2 lA mA fA iA st.n fn gn lc mc fc ic X F G W h1 h2 h3 h4 h5 _ H7 _ (by assumption)
  · have hne : (lr.2.2 != lr.2.2) = false := by simp
    have hn0 : (lr.2.2 != 0) = true := by simpa using h0
    have hn1 : (lr.2.2 == 0) = false := by simpa using h0
    clear h0
    go_upto_region 21 with fail
    exact fouls_rest2 st b1 b2 pA gA pA1 gA1 pA2 gA2 pc gc pc1 gc1 pc2 gc2 lA mA fA iA ln fn gn lc mc fc ic X F G W h1 h2 h3 h4 h5 _ H6 _ (by assumption)

set_option maxRecDepth 100000 in
set_option maxHeartbeats 0 in
/-- the copies, in whatever order they are made -/
theorem fouls_reg (st : St) (B : Nat) (pA gA : Option Addr) (pc gc : Nat) (lA : Option Addr) (ln lc : Nat) (X : Nat → Int) (W w1 : World) (HS : Hid (StRow W B st pA pc gA gc)) (hB : B ≤ W.heap.size) (HL : Hid (IntRow W W.heap.size lA ln X)) (h1 : st.n ≤ 6) (h2 : st.m ≤ 6) (h3 : ln ≤ 8)
    (HB1 : Hid (Below W.heap.size W w1)) (hs1 : W.heap.size + 1 ≤ w1.heap.size) (HA : Hid (w1.cell? ⟨W.heap.size, 0, none⟩ = some (.slice pA st.n pc) ∧ w1.cell? ⟨W.heap.size, 1, none⟩ = some (.slice gA st.m gc) ∧ w1.cell? ⟨W.heap.size, 2, none⟩ = some (.int .i64 st.lots)))
    {u0 u2 u3 u5 u6 u7 u8 u9 u10 u11 u12 u13 u14 u15 u16 u17 u18 u19 u20 u21 u22 u23 u24 u25 u26 u27 u28 u29 u30 u31 u32 u33 u34 u35 u36 u37 u38 u39 u40 u41 u42 u43 u44 u45 u46 u47 u48 u49 u50 u51 u52 : Value} (rest : List Value) (K : Act → World → Prop) (Q : Exit → Act → World → Prop)
    (hK : ∀ (b1 b2 : Nat) (pA1 gA1 pA2 gA2 : Option Addr) (pc1 gc1 pc2 gc2 : Nat) (mA : Option Addr) (mc : Nat) (v47 v48 v49 v50 v51 v52 : Value) (wx : World),
      (Hid (LawAt wx st W.heap.size b1 b2 pA gA pA1 gA1 pA2 gA2 pc gc pc1 gc1 pc2 gc2) ∧ Hid (IntRow wx wx.heap.size lA ln X) ∧ Hid (IntRow wx wx.heap.size mA ln X) ∧ Hid (Below W.heap.size W wx)) → K ⟨(List.toArray (u0 :: (.slice lA ln lc) :: u2 :: u3 :: (.pointer (some ⟨W.heap.size, 0, none⟩)) :: u5 :: u6 :: u7 :: u8 :: (.pointer (some ⟨b1, 0, none⟩)) :: (.slice mA ln mc) :: (.pointer (some ⟨b2, 0, none⟩)) :: u12 :: u13 :: u14 :: u15 :: u16 :: u17 :: u18 :: u19 :: u20 :: u21 :: u22 :: u23 :: u24 :: u25 :: u26 :: u27 :: u28 :: u29 :: u30 :: u31 :: u32 :: u33 :: u34 :: u35 :: u36 :: u37 :: u38 :: u39 :: u40 :: u41 :: u42 :: u43 :: u44 :: u45 :: u46 :: v47 :: v48 :: v49 :: v50 :: v51 :: v52 :: rest)), []⟩ wx) :
    Code.wp Try.prog (hdOf (fromReg 3 (Try.f14.body.getD .skip))) (Exit.then K Q) ⟨(List.toArray (u0 :: (.slice lA ln lc) :: u2 :: u3 :: (.pointer (some ⟨W.heap.size, 0, none⟩)) :: u5 :: u6 :: u7 :: u8 :: u9 :: u10 :: u11 :: u12 :: u13 :: u14 :: u15 :: u16 :: u17 :: u18 :: u19 :: u20 :: u21 :: u22 :: u23 :: u24 :: u25 :: u26 :: u27 :: u28 :: u29 :: u30 :: u31 :: u32 :: u33 :: u34 :: u35 :: u36 :: u37 :: u38 :: u39 :: u40 :: u41 :: u42 :: u43 :: u44 :: u45 :: u46 :: u47 :: u48 :: u49 :: u50 :: u51 :: u52 :: rest)), []⟩ w1 := by
  conv => arg 2; whnf
  obtain ⟨a0, a1, a2⟩ := HA.out
  go_region_held3 (fun w' => w'.cell? ⟨W.heap.size, 0, none⟩ = some (.slice pA st.n pc) ∧ w'.cell? ⟨W.heap.size, 1, none⟩ = some (.slice gA st.m gc) ∧ w'.cell? ⟨W.heap.size, 2, none⟩ = some (.int .i64 st.lots)) ((go_split_ands; (repeat' refine And.intro ?_ ?_) <;> (repeat (first | (with_reducible assumption) | (simp; done) | (with_reducible refine cell_drew_of ?_) | (with_reducible refine cell_drewN_of ?_) | (with_reducible refine cell_below_of (by with_reducible assumption) ?_) | ((with_reducible refine cell_new_of ?_ ?_) <;> (first | (with_reducible rfl) | (simp; done))) | ((with_reducible refine fro_new_of ?_) <;> (first | (with_reducible rfl) | (simp; done))) | (with_reducible refine cell_alloc_of _ ?_) | (with_reducible refine cell_set_of _ (by (first | exact Nat.le_refl _ | omega | (simp; done) | (simp; omega))) ?_) | (with_reducible refine fro_drew_of ?_) | (with_reducible refine fro_drewN_of ?_) | (with_reducible refine fro_below_of (by with_reducible assumption) (by (first | exact Nat.le_refl _ | omega | (simp; done) | (simp; omega))) ?_) | (with_reducible refine fro_alloc_of _ (by (first | exact Nat.le_refl _ | omega | (simp; done) | (simp; omega))) ?_) | (with_reducible refine fro_set_of _ ?_))))) (first | (go_at_call 18; refine (own_any st B pA gA pc gc _ (HS.out.later ((show Below W.heap.size W _ from HB1.out.trans ((show Below w1.heap.size w1 _ from (by repeat (first | (with_reducible exact Below.refl _ _) | (with_reducible refine Below.drew ?_) | (with_reducible refine below_drewN ?_ _) | ((with_reducible refine below_alloc ?_ ?_ _); · (first | exact Nat.le_refl _ | omega | (simp; done) | (simp; omega) | (simp at *; omega))) | ((with_reducible refine below_set ?_ ?_ _); · (first | exact Nat.le_refl _ | omega | (simp; done) | (simp; omega) | (simp at *; omega))) | ((with_reducible refine below_via (by with_reducible assumption) ?_ ?_); · (first | exact Nat.le_refl _ | omega | (simp; done) | (simp; omega) | (simp at *; omega)))))).mono (by omega))).mono hB))).mono ?_; rintro e wp ⟨hbp, pA1, pc1, gA1, gc1, rfl, hop, hog, hpc1, hgc1, _⟩; have hhP := Lib.hid (show Below w1.heap.size w1 wp from (by repeat (first | (with_reducible exact Below.refl _ _) | (with_reducible assumption) | (with_reducible refine Below.drew ?_) | ((with_reducible refine below_alloc ?_ ?_ _); (· (first | exact Nat.le_refl _ | omega | (dsimp only; omega) | (simp only [World.size_alloc, World.size_drew, World.heap_drewN]; omega) | (simp; omega)))) | ((with_reducible refine below_set ?_ ?_ _); (· (first | exact Nat.le_refl _ | omega | (dsimp only; omega) | (simp only [World.size_alloc, World.size_drew, World.heap_drewN]; omega) | (simp; omega)))) | ((with_reducible refine below_via (by with_reducible assumption) ?_ ?_); (· (first | exact Nat.le_refl _ | omega | (dsimp only; omega) | (simp only [World.size_alloc, World.size_drew, World.heap_drewN]; omega) | (simp; omega))))))); have hzp := hbp.size; (try simp only [World.size_drew, World.heap_drewN, World.size_alloc] at hzp);  (try (refine lay_in (A := ((wp.cell? ⟨w1.heap.size, 0, none⟩ = some (.slice none 0 0) ∧ wp.cell? ⟨w1.heap.size, 1, none⟩ = some (.slice none 0 0) ∧ wp.cell? ⟨w1.heap.size, 2, none⟩ = some (.int .i64 0)) ∧ wp.frozen? ⟨w1.heap.size, 0, none⟩ = false ∧ wp.frozen? ⟨w1.heap.size, 1, none⟩ = false ∧ wp.frozen? ⟨w1.heap.size, 2, none⟩ = false)) ?_ ?_; (· ((go_split_ands; (repeat' refine And.intro ?_ ?_) <;> (repeat (first | (with_reducible assumption) | (simp; done) | (with_reducible refine cell_drew_of ?_) | (with_reducible refine cell_drewN_of ?_) | (with_reducible refine cell_below_of (by with_reducible assumption) ?_) | ((with_reducible refine cell_new_of ?_ ?_) <;> (first | (with_reducible rfl) | (simp; done))) | ((with_reducible refine fro_new_of ?_) <;> (first | (with_reducible rfl) | (simp; done))) | (with_reducible refine cell_alloc_of _ ?_) | (with_reducible refine cell_set_of _ (by (first | exact Nat.le_refl _ | omega | (simp; done) | (simp; omega))) ?_) | (with_reducible refine fro_drew_of ?_) | (with_reducible refine fro_drewN_of ?_) | (with_reducible refine fro_below_of (by with_reducible assumption) (by (first | exact Nat.le_refl _ | omega | (simp; done) | (simp; omega))) ?_) | (with_reducible refine fro_alloc_of _ (by (first | exact Nat.le_refl _ | omega | (simp; done) | (simp; omega))) ?_) | (with_reducible refine fro_set_of _ ?_)))))); rintro ⟨⟨_, _, _⟩, _, _, _⟩)); (try (refine lay_in (A := ((wp.cell? ⟨w1.heap.size + 1, 0, none⟩ = some (.slice none 0 0) ∧ wp.cell? ⟨w1.heap.size + 1, 1, none⟩ = some (.slice none 0 0) ∧ wp.cell? ⟨w1.heap.size + 1, 2, none⟩ = some (.int .i64 0)) ∧ wp.frozen? ⟨w1.heap.size + 1, 0, none⟩ = false ∧ wp.frozen? ⟨w1.heap.size + 1, 1, none⟩ = false ∧ wp.frozen? ⟨w1.heap.size + 1, 2, none⟩ = false)) ?_ ?_; (· ((go_split_ands; (repeat' refine And.intro ?_ ?_) <;> (repeat (first | (with_reducible assumption) | (simp; done) | (with_reducible refine cell_drew_of ?_) | (with_reducible refine cell_drewN_of ?_) | (with_reducible refine cell_below_of (by with_reducible assumption) ?_) | ((with_reducible refine cell_new_of ?_ ?_) <;> (first | (with_reducible rfl) | (simp; done))) | ((with_reducible refine fro_new_of ?_) <;> (first | (with_reducible rfl) | (simp; done))) | (with_reducible refine cell_alloc_of _ ?_) | (with_reducible refine cell_set_of _ (by (first | exact Nat.le_refl _ | omega | (simp; done) | (simp; omega))) ?_) | (with_reducible refine fro_drew_of ?_) | (with_reducible refine fro_drewN_of ?_) | (with_reducible refine fro_below_of (by with_reducible assumption) (by (first | exact Nat.le_refl _ | omega | (simp; done) | (simp; omega))) ?_) | (with_reducible refine fro_alloc_of _ (by (first | exact Nat.le_refl _ | omega | (simp; done) | (simp; omega))) ?_) | (with_reducible refine fro_set_of _ ?_)))))); rintro ⟨⟨_, _, _⟩, _, _, _⟩))) | (go_at_call 19; refine (copy_int lA ln lc X _ (HL.out.later (show Below W.heap.size W _ from HB1.out.trans ((show Below w1.heap.size w1 _ from (by repeat (first | (with_reducible exact Below.refl _ _) | (with_reducible refine Below.drew ?_) | (with_reducible refine below_drewN ?_ _) | ((with_reducible refine below_alloc ?_ ?_ _); · (first | exact Nat.le_refl _ | omega | (simp; done) | (simp; omega) | (simp at *; omega))) | ((with_reducible refine below_set ?_ ?_ _); · (first | exact Nat.le_refl _ | omega | (simp; done) | (simp; omega) | (simp at *; omega))) | ((with_reducible refine below_via (by with_reducible assumption) ?_ ?_); · (first | exact Nat.le_refl _ | omega | (simp; done) | (simp; omega) | (simp at *; omega)))))).mono (by omega)))) (by omega)).mono ?_; rintro e wm ⟨hbm, mA, mc, rfl, hom, hmc⟩; have hhM := Lib.hid (show Below wp.heap.size wp wm from (by repeat (first | (with_reducible exact Below.refl _ _) | (with_reducible assumption) | (with_reducible refine Below.drew ?_) | ((with_reducible refine below_alloc ?_ ?_ _); (· (first | exact Nat.le_refl _ | omega | (dsimp only; omega) | (simp only [World.size_alloc, World.size_drew, World.heap_drewN]; omega) | (simp; omega)))) | ((with_reducible refine below_set ?_ ?_ _); (· (first | exact Nat.le_refl _ | omega | (dsimp only; omega) | (simp only [World.size_alloc, World.size_drew, World.heap_drewN]; omega) | (simp; omega)))) | ((with_reducible refine below_via (by with_reducible assumption) ?_ ?_); (· (first | exact Nat.le_refl _ | omega | (dsimp only; omega) | (simp only [World.size_alloc, World.size_drew, World.heap_drewN]; omega) | (simp; omega))))))); have hzm := hbm.size; (try simp only [World.size_drew, World.heap_drewN, World.size_alloc] at hzm);  (try (refine lay_in (A := ((wm.cell? ⟨w1.heap.size, 0, none⟩ = some (.slice none 0 0) ∧ wm.cell? ⟨w1.heap.size, 1, none⟩ = some (.slice none 0 0) ∧ wm.cell? ⟨w1.heap.size, 2, none⟩ = some (.int .i64 0)) ∧ wm.frozen? ⟨w1.heap.size, 0, none⟩ = false ∧ wm.frozen? ⟨w1.heap.size, 1, none⟩ = false ∧ wm.frozen? ⟨w1.heap.size, 2, none⟩ = false)) ?_ ?_; (· ((go_split_ands; (repeat' refine And.intro ?_ ?_) <;> (repeat (first | (with_reducible assumption) | (simp; done) | (with_reducible refine cell_drew_of ?_) | (with_reducible refine cell_drewN_of ?_) | (with_reducible refine cell_below_of (by with_reducible assumption) ?_) | ((with_reducible refine cell_new_of ?_ ?_) <;> (first | (with_reducible rfl) | (simp; done))) | ((with_reducible refine fro_new_of ?_) <;> (first | (with_reducible rfl) | (simp; done))) | (with_reducible refine cell_alloc_of _ ?_) | (with_reducible refine cell_set_of _ (by (first | exact Nat.le_refl _ | omega | (simp; done) | (simp; omega))) ?_) | (with_reducible refine fro_drew_of ?_) | (with_reducible refine fro_drewN_of ?_) | (with_reducible refine fro_below_of (by with_reducible assumption) (by (first | exact Nat.le_refl _ | omega | (simp; done) | (simp; omega))) ?_) | (with_reducible refine fro_alloc_of _ (by (first | exact Nat.le_refl _ | omega | (simp; done) | (simp; omega))) ?_) | (with_reducible refine fro_set_of _ ?_)))))); rintro ⟨⟨_, _, _⟩, _, _, _⟩)); (try (refine lay_in (A := ((wm.cell? ⟨w1.heap.size + 1, 0, none⟩ = some (.slice none 0 0) ∧ wm.cell? ⟨w1.heap.size + 1, 1, none⟩ = some (.slice none 0 0) ∧ wm.cell? ⟨w1.heap.size + 1, 2, none⟩ = some (.int .i64 0)) ∧ wm.frozen? ⟨w1.heap.size + 1, 0, none⟩ = false ∧ wm.frozen? ⟨w1.heap.size + 1, 1, none⟩ = false ∧ wm.frozen? ⟨w1.heap.size + 1, 2, none⟩ = false)) ?_ ?_; (· ((go_split_ands; (repeat' refine And.intro ?_ ?_) <;> (repeat (first | (with_reducible assumption) | (simp; done) | (with_reducible refine cell_drew_of ?_) | (with_reducible refine cell_drewN_of ?_) | (with_reducible refine cell_below_of (by with_reducible assumption) ?_) | ((with_reducible refine cell_new_of ?_ ?_) <;> (first | (with_reducible rfl) | (simp; done))) | ((with_reducible refine fro_new_of ?_) <;> (first | (with_reducible rfl) | (simp; done))) | (with_reducible refine cell_alloc_of _ ?_) | (with_reducible refine cell_set_of _ (by (first | exact Nat.le_refl _ | omega | (simp; done) | (simp; omega))) ?_) | (with_reducible refine fro_drew_of ?_) | (with_reducible refine fro_drewN_of ?_) | (with_reducible refine fro_below_of (by with_reducible assumption) (by (first | exact Nat.le_refl _ | omega | (simp; done) | (simp; omega))) ?_) | (with_reducible refine fro_alloc_of _ (by (first | exact Nat.le_refl _ | omega | (simp; done) | (simp; omega))) ?_) | (with_reducible refine fro_set_of _ ?_)))))); rintro ⟨⟨_, _, _⟩, _, _, _⟩)); (try (refine lay_in (A := ((wm.cell? ⟨wp.heap.size, 0, none⟩ = some (.slice none 0 0) ∧ wm.cell? ⟨wp.heap.size, 1, none⟩ = some (.slice none 0 0) ∧ wm.cell? ⟨wp.heap.size, 2, none⟩ = some (.int .i64 0)) ∧ wm.frozen? ⟨wp.heap.size, 0, none⟩ = false ∧ wm.frozen? ⟨wp.heap.size, 1, none⟩ = false ∧ wm.frozen? ⟨wp.heap.size, 2, none⟩ = false)) ?_ ?_; (· ((go_split_ands; (repeat' refine And.intro ?_ ?_) <;> (repeat (first | (with_reducible assumption) | (simp; done) | (with_reducible refine cell_drew_of ?_) | (with_reducible refine cell_drewN_of ?_) | (with_reducible refine cell_below_of (by with_reducible assumption) ?_) | ((with_reducible refine cell_new_of ?_ ?_) <;> (first | (with_reducible rfl) | (simp; done))) | ((with_reducible refine fro_new_of ?_) <;> (first | (with_reducible rfl) | (simp; done))) | (with_reducible refine cell_alloc_of _ ?_) | (with_reducible refine cell_set_of _ (by (first | exact Nat.le_refl _ | omega | (simp; done) | (simp; omega))) ?_) | (with_reducible refine fro_drew_of ?_) | (with_reducible refine fro_drewN_of ?_) | (with_reducible refine fro_below_of (by with_reducible assumption) (by (first | exact Nat.le_refl _ | omega | (simp; done) | (simp; omega))) ?_) | (with_reducible refine fro_alloc_of _ (by (first | exact Nat.le_refl _ | omega | (simp; done) | (simp; omega))) ?_) | (with_reducible refine fro_set_of _ ?_)))))); rintro ⟨⟨_, _, _⟩, _, _, _⟩)); (try (refine lay_in (A := ((wm.cell? ⟨wp.heap.size + 1, 0, none⟩ = some (.slice none 0 0) ∧ wm.cell? ⟨wp.heap.size + 1, 1, none⟩ = some (.slice none 0 0) ∧ wm.cell? ⟨wp.heap.size + 1, 2, none⟩ = some (.int .i64 0)) ∧ wm.frozen? ⟨wp.heap.size + 1, 0, none⟩ = false ∧ wm.frozen? ⟨wp.heap.size + 1, 1, none⟩ = false ∧ wm.frozen? ⟨wp.heap.size + 1, 2, none⟩ = false)) ?_ ?_; (· ((go_split_ands; (repeat' refine And.intro ?_ ?_) <;> (repeat (first | (with_reducible assumption) | (simp; done) | (with_reducible refine cell_drew_of ?_) | (with_reducible refine cell_drewN_of ?_) | (with_reducible refine cell_below_of (by with_reducible assumption) ?_) | ((with_reducible refine cell_new_of ?_ ?_) <;> (first | (with_reducible rfl) | (simp; done))) | ((with_reducible refine fro_new_of ?_) <;> (first | (with_reducible rfl) | (simp; done))) | (with_reducible refine cell_alloc_of _ ?_) | (with_reducible refine cell_set_of _ (by (first | exact Nat.le_refl _ | omega | (simp; done) | (simp; omega))) ?_) | (with_reducible refine fro_drew_of ?_) | (with_reducible refine fro_drewN_of ?_) | (with_reducible refine fro_below_of (by with_reducible assumption) (by (first | exact Nat.le_refl _ | omega | (simp; done) | (simp; omega))) ?_) | (with_reducible refine fro_alloc_of _ (by (first | exact Nat.le_refl _ | omega | (simp; done) | (simp; omega))) ?_) | (with_reducible refine fro_set_of _ ?_)))))); rintro ⟨⟨_, _, _⟩, _, _, _⟩))) | (go_at_call 20; refine (theirs_any st B pA gA pc gc _ (HS.out.later ((show Below W.heap.size W _ from HB1.out.trans ((show Below w1.heap.size w1 _ from (by repeat (first | (with_reducible exact Below.refl _ _) | (with_reducible refine Below.drew ?_) | (with_reducible refine below_drewN ?_ _) | ((with_reducible refine below_alloc ?_ ?_ _); · (first | exact Nat.le_refl _ | omega | (simp; done) | (simp; omega) | (simp at *; omega))) | ((with_reducible refine below_set ?_ ?_ _); · (first | exact Nat.le_refl _ | omega | (simp; done) | (simp; omega) | (simp at *; omega))) | ((with_reducible refine below_via (by with_reducible assumption) ?_ ?_); · (first | exact Nat.le_refl _ | omega | (simp; done) | (simp; omega) | (simp at *; omega)))))).mono (by omega))).mono hB))).mono ?_; rintro e wt ⟨hbt, pA2, pc2, gA2, gc2, rfl, htp, htg, hpc2, hgc2⟩; have hhT := Lib.hid (show Below wm.heap.size wm wt from (by repeat (first | (with_reducible exact Below.refl _ _) | (with_reducible assumption) | (with_reducible refine Below.drew ?_) | ((with_reducible refine below_alloc ?_ ?_ _); (· (first | exact Nat.le_refl _ | omega | (dsimp only; omega) | (simp only [World.size_alloc, World.size_drew, World.heap_drewN]; omega) | (simp; omega)))) | ((with_reducible refine below_set ?_ ?_ _); (· (first | exact Nat.le_refl _ | omega | (dsimp only; omega) | (simp only [World.size_alloc, World.size_drew, World.heap_drewN]; omega) | (simp; omega)))) | ((with_reducible refine below_via (by with_reducible assumption) ?_ ?_); (· (first | exact Nat.le_refl _ | omega | (dsimp only; omega) | (simp only [World.size_alloc, World.size_drew, World.heap_drewN]; omega) | (simp; omega))))))); have hzt := hbt.size; (try simp only [World.size_drew, World.heap_drewN, World.size_alloc] at hzt);  (try (refine lay_in (A := ((wt.cell? ⟨w1.heap.size, 0, none⟩ = some (.slice none 0 0) ∧ wt.cell? ⟨w1.heap.size, 1, none⟩ = some (.slice none 0 0) ∧ wt.cell? ⟨w1.heap.size, 2, none⟩ = some (.int .i64 0)) ∧ wt.frozen? ⟨w1.heap.size, 0, none⟩ = false ∧ wt.frozen? ⟨w1.heap.size, 1, none⟩ = false ∧ wt.frozen? ⟨w1.heap.size, 2, none⟩ = false)) ?_ ?_; (· ((go_split_ands; (repeat' refine And.intro ?_ ?_) <;> (repeat (first | (with_reducible assumption) | (simp; done) | (with_reducible refine cell_drew_of ?_) | (with_reducible refine cell_drewN_of ?_) | (with_reducible refine cell_below_of (by with_reducible assumption) ?_) | ((with_reducible refine cell_new_of ?_ ?_) <;> (first | (with_reducible rfl) | (simp; done))) | ((with_reducible refine fro_new_of ?_) <;> (first | (with_reducible rfl) | (simp; done))) | (with_reducible refine cell_alloc_of _ ?_) | (with_reducible refine cell_set_of _ (by (first | exact Nat.le_refl _ | omega | (simp; done) | (simp; omega))) ?_) | (with_reducible refine fro_drew_of ?_) | (with_reducible refine fro_drewN_of ?_) | (with_reducible refine fro_below_of (by with_reducible assumption) (by (first | exact Nat.le_refl _ | omega | (simp; done) | (simp; omega))) ?_) | (with_reducible refine fro_alloc_of _ (by (first | exact Nat.le_refl _ | omega | (simp; done) | (simp; omega))) ?_) | (with_reducible refine fro_set_of _ ?_)))))); rintro ⟨⟨_, _, _⟩, _, _, _⟩)); (try (refine lay_in (A := ((wt.cell? ⟨w1.heap.size + 1, 0, none⟩ = some (.slice none 0 0) ∧ wt.cell? ⟨w1.heap.size + 1, 1, none⟩ = some (.slice none 0 0) ∧ wt.cell? ⟨w1.heap.size + 1, 2, none⟩ = some (.int .i64 0)) ∧ wt.frozen? ⟨w1.heap.size + 1, 0, none⟩ = false ∧ wt.frozen? ⟨w1.heap.size + 1, 1, none⟩ = false ∧ wt.frozen? ⟨w1.heap.size + 1, 2, none⟩ = false)) ?_ ?_; (· ((go_split_ands; (repeat' refine And.intro ?_ ?_) <;> (repeat (first | (with_reducible assumption) | (simp; done) | (with_reducible refine cell_drew_of ?_) | (with_reducible refine cell_drewN_of ?_) | (with_reducible refine cell_below_of (by with_reducible assumption) ?_) | ((with_reducible refine cell_new_of ?_ ?_) <;> (first | (with_reducible rfl) | (simp; done))) | ((with_reducible refine fro_new_of ?_) <;> (first | (with_reducible rfl) | (simp; done))) | (with_reducible refine cell_alloc_of _ ?_) | (with_reducible refine cell_set_of _ (by (first | exact Nat.le_refl _ | omega | (simp; done) | (simp; omega))) ?_) | (with_reducible refine fro_drew_of ?_) | (with_reducible refine fro_drewN_of ?_) | (with_reducible refine fro_below_of (by with_reducible assumption) (by (first | exact Nat.le_refl _ | omega | (simp; done) | (simp; omega))) ?_) | (with_reducible refine fro_alloc_of _ (by (first | exact Nat.le_refl _ | omega | (simp; done) | (simp; omega))) ?_) | (with_reducible refine fro_set_of _ ?_)))))); rintro ⟨⟨_, _, _⟩, _, _, _⟩)); (try (refine lay_in (A := ((wt.cell? ⟨wp.heap.size, 0, none⟩ = some (.slice none 0 0) ∧ wt.cell? ⟨wp.heap.size, 1, none⟩ = some (.slice none 0 0) ∧ wt.cell? ⟨wp.heap.size, 2, none⟩ = some (.int .i64 0)) ∧ wt.frozen? ⟨wp.heap.size, 0, none⟩ = false ∧ wt.frozen? ⟨wp.heap.size, 1, none⟩ = false ∧ wt.frozen? ⟨wp.heap.size, 2, none⟩ = false)) ?_ ?_; (· ((go_split_ands; (repeat' refine And.intro ?_ ?_) <;> (repeat (first | (with_reducible assumption) | (simp; done) | (with_reducible refine cell_drew_of ?_) | (with_reducible refine cell_drewN_of ?_) | (with_reducible refine cell_below_of (by with_reducible assumption) ?_) | ((with_reducible refine cell_new_of ?_ ?_) <;> (first | (with_reducible rfl) | (simp; done))) | ((with_reducible refine fro_new_of ?_) <;> (first | (with_reducible rfl) | (simp; done))) | (with_reducible refine cell_alloc_of _ ?_) | (with_reducible refine cell_set_of _ (by (first | exact Nat.le_refl _ | omega | (simp; done) | (simp; omega))) ?_) | (with_reducible refine fro_drew_of ?_) | (with_reducible refine fro_drewN_of ?_) | (with_reducible refine fro_below_of (by with_reducible assumption) (by (first | exact Nat.le_refl _ | omega | (simp; done) | (simp; omega))) ?_) | (with_reducible refine fro_alloc_of _ (by (first | exact Nat.le_refl _ | omega | (simp; done) | (simp; omega))) ?_) | (with_reducible refine fro_set_of _ ?_)))))); rintro ⟨⟨_, _, _⟩, _, _, _⟩)); (try (refine lay_in (A := ((wt.cell? ⟨wp.heap.size + 1, 0, none⟩ = some (.slice none 0 0) ∧ wt.cell? ⟨wp.heap.size + 1, 1, none⟩ = some (.slice none 0 0) ∧ wt.cell? ⟨wp.heap.size + 1, 2, none⟩ = some (.int .i64 0)) ∧ wt.frozen? ⟨wp.heap.size + 1, 0, none⟩ = false ∧ wt.frozen? ⟨wp.heap.size + 1, 1, none⟩ = false ∧ wt.frozen? ⟨wp.heap.size + 1, 2, none⟩ = false)) ?_ ?_; (· ((go_split_ands; (repeat' refine And.intro ?_ ?_) <;> (repeat (first | (with_reducible assumption) | (simp; done) | (with_reducible refine cell_drew_of ?_) | (with_reducible refine cell_drewN_of ?_) | (with_reducible refine cell_below_of (by with_reducible assumption) ?_) | ((with_reducible refine cell_new_of ?_ ?_) <;> (first | (with_reducible rfl) | (simp; done))) | ((with_reducible refine fro_new_of ?_) <;> (first | (with_reducible rfl) | (simp; done))) | (with_reducible refine cell_alloc_of _ ?_) | (with_reducible refine cell_set_of _ (by (first | exact Nat.le_refl _ | omega | (simp; done) | (simp; omega))) ?_) | (with_reducible refine fro_drew_of ?_) | (with_reducible refine fro_drewN_of ?_) | (with_reducible refine fro_below_of (by with_reducible assumption) (by (first | exact Nat.le_refl _ | omega | (simp; done) | (simp; omega))) ?_) | (with_reducible refine fro_alloc_of _ (by (first | exact Nat.le_refl _ | omega | (simp; done) | (simp; omega))) ?_) | (with_reducible refine fro_set_of _ ?_)))))); rintro ⟨⟨_, _, _⟩, _, _, _⟩)); (try (refine lay_in (A := ((wt.cell? ⟨wm.heap.size, 0, none⟩ = some (.slice none 0 0) ∧ wt.cell? ⟨wm.heap.size, 1, none⟩ = some (.slice none 0 0) ∧ wt.cell? ⟨wm.heap.size, 2, none⟩ = some (.int .i64 0)) ∧ wt.frozen? ⟨wm.heap.size, 0, none⟩ = false ∧ wt.frozen? ⟨wm.heap.size, 1, none⟩ = false ∧ wt.frozen? ⟨wm.heap.size, 2, none⟩ = false)) ?_ ?_; (· ((go_split_ands; (repeat' refine And.intro ?_ ?_) <;> (repeat (first | (with_reducible assumption) | (simp; done) | (with_reducible refine cell_drew_of ?_) | (with_reducible refine cell_drewN_of ?_) | (with_reducible refine cell_below_of (by with_reducible assumption) ?_) | ((with_reducible refine cell_new_of ?_ ?_) <;> (first | (with_reducible rfl) | (simp; done))) | ((with_reducible refine fro_new_of ?_) <;> (first | (with_reducible rfl) | (simp; done))) | (with_reducible refine cell_alloc_of _ ?_) | (with_reducible refine cell_set_of _ (by (first | exact Nat.le_refl _ | omega | (simp; done) | (simp; omega))) ?_) | (with_reducible refine fro_drew_of ?_) | (with_reducible refine fro_drewN_of ?_) | (with_reducible refine fro_below_of (by with_reducible assumption) (by (first | exact Nat.le_refl _ | omega | (simp; done) | (simp; omega))) ?_) | (with_reducible refine fro_alloc_of _ (by (first | exact Nat.le_refl _ | omega | (simp; done) | (simp; omega))) ?_) | (with_reducible refine fro_set_of _ ?_)))))); rintro ⟨⟨_, _, _⟩, _, _, _⟩)); (try (refine lay_in (A := ((wt.cell? ⟨wm.heap.size + 1, 0, none⟩ = some (.slice none 0 0) ∧ wt.cell? ⟨wm.heap.size + 1, 1, none⟩ = some (.slice none 0 0) ∧ wt.cell? ⟨wm.heap.size + 1, 2, none⟩ = some (.int .i64 0)) ∧ wt.frozen? ⟨wm.heap.size + 1, 0, none⟩ = false ∧ wt.frozen? ⟨wm.heap.size + 1, 1, none⟩ = false ∧ wt.frozen? ⟨wm.heap.size + 1, 2, none⟩ = false)) ?_ ?_; (· ((go_split_ands; (repeat' refine And.intro ?_ ?_) <;> (repeat (first | (with_reducible assumption) | (simp; done) | (with_reducible refine cell_drew_of ?_) | (with_reducible refine cell_drewN_of ?_) | (with_reducible refine cell_below_of (by with_reducible assumption) ?_) | ((with_reducible refine cell_new_of ?_ ?_) <;> (first | (with_reducible rfl) | (simp; done))) | ((with_reducible refine fro_new_of ?_) <;> (first | (with_reducible rfl) | (simp; done))) | (with_reducible refine cell_alloc_of _ ?_) | (with_reducible refine cell_set_of _ (by (first | exact Nat.le_refl _ | omega | (simp; done) | (simp; omega))) ?_) | (with_reducible refine fro_drew_of ?_) | (with_reducible refine fro_drewN_of ?_) | (with_reducible refine fro_below_of (by with_reducible assumption) (by (first | exact Nat.le_refl _ | omega | (simp; done) | (simp; omega))) ?_) | (with_reducible refine fro_alloc_of _ (by (first | exact Nat.le_refl _ | omega | (simp; done) | (simp; omega))) ?_) | (with_reducible refine fro_set_of _ ?_)))))); rintro ⟨⟨_, _, _⟩, _, _, _⟩))))
  all_goals
    show K _ _
    refine hK _ _ pA1 gA1 pA2 gA2 pc1 gc1 pc2 gc2 mA mc _ _ _ _ _ _ _ ?_
    refine law_close HS.out HL.out HB1.out (by omega) HA.out hhP.out hhM.out hhT.out hop hog hpc1 hgc1 hom htp htg hpc2 hgc2 ?os ?tp ?ou ?z ?f ?k1 ?k2 ?s1 ?s2
    case os => simp only [setCell_os, alloc_os]
    case tp => simp only [setCell_tape, alloc_tape]
    case ou => simp only [setCell_output, alloc_output]
    case z => (try simp only [setCell_size, World.size_alloc]) <;> omega
    case f => intro i hi h1 h2; repeat (first | (with_reducible rfl) | ((with_reducible refine Eq.trans (set_heap _ ?_) ?_); (· first | exact h1 | exact h2 | (dsimp only; omega))) | ((with_reducible refine Eq.trans (Below.heap_alloc _ _ _ ?_) ?_); (· first | omega | (simp; omega))))
    case k1 => (try simp only [World.size_alloc, World.size_drew]) <;> omega
    case k2 => (try simp only [World.size_alloc, World.size_drew]) <;> omega
    case s1 => exact (by (repeat' refine And.intro ?_ ?_) <;> (repeat (first | (with_reducible assumption) | (with_reducible refine cell_set_is ?_) | (with_reducible refine has_set ?_) | (with_reducible exact has_of (by with_reducible assumption)) | ((with_reducible refine has_new ?_ ?_) <;> (first | (with_reducible rfl) | (simp; done))) | (with_reducible refine has_alloc ?_) | (with_reducible refine cell_set_off (by decide) ?_) | (with_reducible refine cell_drew_of ?_) | (with_reducible refine cell_below_of (by with_reducible assumption) ?_) | ((with_reducible refine cell_new_of ?_ ?_) <;> (first | (with_reducible rfl) | (simp; done))) | (with_reducible refine cell_alloc_of _ ?_) | (with_reducible refine cell_set_of _ (by (first | exact Nat.le_refl _ | omega | (dsimp only; omega) | (simp only [World.size_alloc, World.size_drew, World.heap_drewN]; omega) | (simp; omega))) ?_))))
    case s2 => exact (by (repeat' refine And.intro ?_ ?_) <;> (repeat (first | (with_reducible assumption) | (with_reducible refine cell_set_is ?_) | (with_reducible refine has_set ?_) | (with_reducible exact has_of (by with_reducible assumption)) | ((with_reducible refine has_new ?_ ?_) <;> (first | (with_reducible rfl) | (simp; done))) | (with_reducible refine has_alloc ?_) | (with_reducible refine cell_set_off (by decide) ?_) | (with_reducible refine cell_drew_of ?_) | (with_reducible refine cell_below_of (by with_reducible assumption) ?_) | ((with_reducible refine cell_new_of ?_ ?_) <;> (first | (with_reducible rfl) | (simp; done))) | (with_reducible refine cell_alloc_of _ ?_) | (with_reducible refine cell_set_of _ (by (first | exact Nat.le_refl _ | omega | (dsimp only; omega) | (simp only [World.size_alloc, World.size_drew, World.heap_drewN]; omega) | (simp; omega))) ?_))))

set_option maxRecDepth 100000 in
set_option maxHeartbeats 0 in
theorem fouls_in (st : St) (B : Nat) (pA gA : Option Addr) (pc gc : Nat) (lA : Option Addr) (ln lc : Nat) (X : Nat → Int) (fA : Option Addr) (fn fc : Nat) (F : Nat → Int) (iA : Option Addr) (gn ic : Nat) (G : Nat → Int) (W : World) (hs : StRow W B st pA pc gA gc) (hl : IntRow W W.heap.size lA ln X) (hlf : IntRow W W.heap.size fA fn F) (hlg : IntRow W W.heap.size iA gn G) (h1 : st.n ≤ 6) (h2 : st.m ≤ 6) (h3 : ln ≤ 8) (h4 : fn ≤ 8) (h5 : gn ≤ 8) :
    Calls Try.prog 14 #[stV pA st.n pc gA st.m gc st.lots, .slice lA ln lc, .slice fA fn fc, .slice iA gn ic] W fun e W' => e = .returned (.bool true) ∧ Below W.heap.size W W' := by
  have HS := Lib.hid hs; have HL := Lib.hid hl; have hB := hs.lt; clear hs hl
  have HLF := Lib.hid hlf
  have HLG := Lib.hid hlg
  clear hlf hlg
  have hlong : (decide (6 < st.n) || decide (6 < st.m)) = false := by simp; omega
  have hln : ¬ (8 : Int) < (ln : Int) := by omega
  have hfn : ¬ (8 : Int) < (fn : Int) := by omega
  have hgn : ¬ (8 : Int) < (gn : Int) := by omega
  go_enter Try.func14, Try.ntmps14
  go_wp2_with fail
  refine (long_any pA gA st.n pc st.m gc st.lots _).mono ?_
  rintro e w1 ⟨rfl, hb1⟩
  rw [hlong]
  have HB1 := Lib.hid (show Below W.heap.size W w1 from (by repeat (first | (with_reducible exact Below.refl _ _) | (with_reducible refine Below.drew ?_) | (with_reducible refine below_drewN ?_ _) | ((with_reducible refine below_alloc ?_ ?_ _); · (first | exact Nat.le_refl _ | omega | (simp; done) | (simp; omega) | (simp at *; omega))) | ((with_reducible refine below_set ?_ ?_ _); · (first | exact Nat.le_refl _ | omega | (simp; done) | (simp; omega) | (simp at *; omega))) | ((with_reducible refine below_via (by with_reducible assumption) ?_ ?_); · (first | exact Nat.le_refl _ | omega | (simp; done) | (simp; omega) | (simp at *; omega))))))
  have hs1 := hb1.size
  simp only [World.size_alloc] at hs1
  have a0 : w1.cell? ⟨W.heap.size, 0, none⟩ = some (.slice pA st.n pc) := cell_below_of hb1 (by (repeat' refine And.intro ?_ ?_) <;> (repeat (first | (with_reducible assumption) | (simp; done) | (with_reducible refine cell_drew_of ?_) | (with_reducible refine cell_drewN_of ?_) | (with_reducible refine cell_below_of (by with_reducible assumption) ?_) | ((with_reducible refine cell_new_of ?_ ?_) <;> (first | (with_reducible rfl) | (simp; done))) | ((with_reducible refine fro_new_of ?_) <;> (first | (with_reducible rfl) | (simp; done))) | (with_reducible refine cell_alloc_of _ ?_) | (with_reducible refine cell_set_of _ (by (first | exact Nat.le_refl _ | omega | (simp; done) | (simp; omega))) ?_) | (with_reducible refine fro_drew_of ?_) | (with_reducible refine fro_drewN_of ?_) | (with_reducible refine fro_below_of (by with_reducible assumption) (by (first | exact Nat.le_refl _ | omega | (simp; done) | (simp; omega))) ?_) | (with_reducible refine fro_alloc_of _ (by (first | exact Nat.le_refl _ | omega | (simp; done) | (simp; omega))) ?_) | (with_reducible refine fro_set_of _ ?_))))
  have a1 : w1.cell? ⟨W.heap.size, 1, none⟩ = some (.slice gA st.m gc) := cell_below_of hb1 (by (repeat' refine And.intro ?_ ?_) <;> (repeat (first | (with_reducible assumption) | (simp; done) | (with_reducible refine cell_drew_of ?_) | (with_reducible refine cell_drewN_of ?_) | (with_reducible refine cell_below_of (by with_reducible assumption) ?_) | ((with_reducible refine cell_new_of ?_ ?_) <;> (first | (with_reducible rfl) | (simp; done))) | ((with_reducible refine fro_new_of ?_) <;> (first | (with_reducible rfl) | (simp; done))) | (with_reducible refine cell_alloc_of _ ?_) | (with_reducible refine cell_set_of _ (by (first | exact Nat.le_refl _ | omega | (simp; done) | (simp; omega))) ?_) | (with_reducible refine fro_drew_of ?_) | (with_reducible refine fro_drewN_of ?_) | (with_reducible refine fro_below_of (by with_reducible assumption) (by (first | exact Nat.le_refl _ | omega | (simp; done) | (simp; omega))) ?_) | (with_reducible refine fro_alloc_of _ (by (first | exact Nat.le_refl _ | omega | (simp; done) | (simp; omega))) ?_) | (with_reducible refine fro_set_of _ ?_))))
  have a2 : w1.cell? ⟨W.heap.size, 2, none⟩ = some (.int .i64 st.lots) := cell_below_of hb1 (by (repeat' refine And.intro ?_ ?_) <;> (repeat (first | (with_reducible assumption) | (simp; done) | (with_reducible refine cell_drew_of ?_) | (with_reducible refine cell_drewN_of ?_) | (with_reducible refine cell_below_of (by with_reducible assumption) ?_) | ((with_reducible refine cell_new_of ?_ ?_) <;> (first | (with_reducible rfl) | (simp; done))) | ((with_reducible refine fro_new_of ?_) <;> (first | (with_reducible rfl) | (simp; done))) | (with_reducible refine cell_alloc_of _ ?_) | (with_reducible refine cell_set_of _ (by (first | exact Nat.le_refl _ | omega | (simp; done) | (simp; omega))) ?_) | (with_reducible refine fro_drew_of ?_) | (with_reducible refine fro_drewN_of ?_) | (with_reducible refine fro_below_of (by with_reducible assumption) (by (first | exact Nat.le_refl _ | omega | (simp; done) | (simp; omega))) ?_) | (with_reducible refine fro_alloc_of _ (by (first | exact Nat.le_refl _ | omega | (simp; done) | (simp; omega))) ?_) | (with_reducible refine fro_set_of _ ?_))))
  have HA := Lib.hid (show _ ∧ _ ∧ _ from ⟨a0, a1, a2⟩)
  clear hb1
  clear a0 a1 a2
  go_upto_region 3 with fail
  refine fouls_reg st B pA gA pc gc lA ln lc X W w1 HS hB HL h1 h2 h3 HB1 hs1 HA _ _ _ ?_
  intro b1 b2 pA1 gA1 pA2 gA2 pc1 gc1 pc2 gc2 mA mc v47 v48 v49 v50 v51 v52 wx ⟨HQ, HL0, HL1, HB2⟩
  have H2 : Hid (FoulsAt W _ st b1 b2 pA gA pA1 gA1 pA2 gA2 pc gc pc1 gc1 pc2 gc2 lA mA fA iA ln fn gn X F G) := Lib.hid ⟨HQ.out, HL0.out, HL1.out, HLF.out.later HB2.out, HLG.out.later HB2.out, HB2.out⟩
  clear HQ HL0 HL1 HB2
  go_upto_region 4 with fail
  exact fouls_rest1 st b1 b2 pA gA pA1 gA1 pA2 gA2 pc gc pc1 gc1 pc2 gc2 lA mA fA iA ln fn gn lc mc fc ic X F G W h1 h2 h3 h4 h5 _ H2 _ (by assumption)

set_option maxRecDepth 100000 in
theorem fouls_long0 (st : St) (pA gA : Option Addr) (pc gc : Nat) (lA : Option Addr) (ln lc : Nat) (fA : Option Addr) (fn fc : Nat) (iA : Option Addr) (gn ic : Nat) (W : World) (h1 : (decide (6 < st.n) || decide (6 < st.m)) = true) :
    Calls Try.prog 14 #[stV pA st.n pc gA st.m gc st.lots, .slice lA ln lc, .slice fA fn fc, .slice iA gn ic] W fun e W' => e = .returned (.bool true) ∧ Below W.heap.size W W' := by
  go_enter Try.func14, Try.ntmps14
  go_wp2_with fail
  refine (long_any pA gA st.n pc st.m gc st.lots _).mono ?_
  rintro e w1 ⟨rfl, hb1⟩
  rw [h1]
  have HB1 := Lib.hid (show Below W.heap.size W w1 from (by repeat (first | (with_reducible exact Below.refl _ _) | (with_reducible refine Below.drew ?_) | (with_reducible refine below_drewN ?_ _) | ((with_reducible refine below_alloc ?_ ?_ _); · (first | exact Nat.le_refl _ | omega | (simp; done) | (simp; omega) | (simp at *; omega))) | ((with_reducible refine below_set ?_ ?_ _); · (first | exact Nat.le_refl _ | omega | (simp; done) | (simp; omega) | (simp at *; omega))) | ((with_reducible refine below_via (by with_reducible assumption) ?_ ?_); · (first | exact Nat.le_refl _ | omega | (simp; done) | (simp; omega) | (simp at *; omega))))))
  have hs1 := HB1.out.size
  clear hb1
  go_wp2_with fail
  refine (awake_any _).mono ?_
  rintro e w2 ⟨rfl, hb2⟩
  have HB2 := Lib.hid (HB1.out.trans (hb2.mono hs1))
  clear hb2
  go_wp2_with fail
  go_ret
  exact ⟨rfl, HB2.out⟩
set_option maxRecDepth 100000 in
theorem fouls_long1 (st : St) (pA gA : Option Addr) (pc gc : Nat) (lA : Option Addr) (ln lc : Nat) (fA : Option Addr) (fn fc : Nat) (iA : Option Addr) (gn ic : Nat) (W : World) (h1 : (decide (6 < st.n) || decide (6 < st.m)) = false) (h : (8 : Int) < (ln : Int)) :
    Calls Try.prog 14 #[stV pA st.n pc gA st.m gc st.lots, .slice lA ln lc, .slice fA fn fc, .slice iA gn ic] W fun e W' => e = .returned (.bool true) ∧ Below W.heap.size W W' := by
  go_enter Try.func14, Try.ntmps14
  go_wp2_with fail
  refine (long_any pA gA st.n pc st.m gc st.lots _).mono ?_
  rintro e w1 ⟨rfl, hb1⟩
  rw [h1]
  have HB1 := Lib.hid (show Below W.heap.size W w1 from (by repeat (first | (with_reducible exact Below.refl _ _) | (with_reducible refine Below.drew ?_) | (with_reducible refine below_drewN ?_ _) | ((with_reducible refine below_alloc ?_ ?_ _); · (first | exact Nat.le_refl _ | omega | (simp; done) | (simp; omega) | (simp at *; omega))) | ((with_reducible refine below_set ?_ ?_ _); · (first | exact Nat.le_refl _ | omega | (simp; done) | (simp; omega) | (simp at *; omega))) | ((with_reducible refine below_via (by with_reducible assumption) ?_ ?_); · (first | exact Nat.le_refl _ | omega | (simp; done) | (simp; omega) | (simp at *; omega))))))
  have hs1 := HB1.out.size
  clear hb1
  go_wp2_with fail
  refine (awake_any _).mono ?_
  rintro e w2 ⟨rfl, hb2⟩
  have HB2 := Lib.hid (HB1.out.trans (hb2.mono hs1))
  clear hb2
  go_wp2_with fail
  go_ret
  exact ⟨rfl, HB2.out⟩
set_option maxRecDepth 100000 in
theorem fouls_long2 (st : St) (pA gA : Option Addr) (pc gc : Nat) (lA : Option Addr) (ln lc : Nat) (fA : Option Addr) (fn fc : Nat) (iA : Option Addr) (gn ic : Nat) (W : World) (h1 : (decide (6 < st.n) || decide (6 < st.m)) = false) (h0 : ¬ (8 : Int) < (ln : Int)) (h : (8 : Int) < (fn : Int)) :
    Calls Try.prog 14 #[stV pA st.n pc gA st.m gc st.lots, .slice lA ln lc, .slice fA fn fc, .slice iA gn ic] W fun e W' => e = .returned (.bool true) ∧ Below W.heap.size W W' := by
  go_enter Try.func14, Try.ntmps14
  go_wp2_with fail
  refine (long_any pA gA st.n pc st.m gc st.lots _).mono ?_
  rintro e w1 ⟨rfl, hb1⟩
  rw [h1]
  have HB1 := Lib.hid (show Below W.heap.size W w1 from (by repeat (first | (with_reducible exact Below.refl _ _) | (with_reducible refine Below.drew ?_) | (with_reducible refine below_drewN ?_ _) | ((with_reducible refine below_alloc ?_ ?_ _); · (first | exact Nat.le_refl _ | omega | (simp; done) | (simp; omega) | (simp at *; omega))) | ((with_reducible refine below_set ?_ ?_ _); · (first | exact Nat.le_refl _ | omega | (simp; done) | (simp; omega) | (simp at *; omega))) | ((with_reducible refine below_via (by with_reducible assumption) ?_ ?_); · (first | exact Nat.le_refl _ | omega | (simp; done) | (simp; omega) | (simp at *; omega))))))
  have hs1 := HB1.out.size
  clear hb1
  go_wp2_with fail
  refine (awake_any _).mono ?_
  rintro e w2 ⟨rfl, hb2⟩
  have HB2 := Lib.hid (HB1.out.trans (hb2.mono hs1))
  clear hb2
  go_wp2_with fail
  go_ret
  exact ⟨rfl, HB2.out⟩
set_option maxRecDepth 100000 in
theorem fouls_long3 (st : St) (pA gA : Option Addr) (pc gc : Nat) (lA : Option Addr) (ln lc : Nat) (fA : Option Addr) (fn fc : Nat) (iA : Option Addr) (gn ic : Nat) (W : World) (h1 : (decide (6 < st.n) || decide (6 < st.m)) = false) (h0 : ¬ (8 : Int) < (ln : Int)) (h2 : ¬ (8 : Int) < (fn : Int)) (h : (8 : Int) < (gn : Int)) :
    Calls Try.prog 14 #[stV pA st.n pc gA st.m gc st.lots, .slice lA ln lc, .slice fA fn fc, .slice iA gn ic] W fun e W' => e = .returned (.bool true) ∧ Below W.heap.size W W' := by
  go_enter Try.func14, Try.ntmps14
  go_wp2_with fail
  refine (long_any pA gA st.n pc st.m gc st.lots _).mono ?_
  rintro e w1 ⟨rfl, hb1⟩
  rw [h1]
  have HB1 := Lib.hid (show Below W.heap.size W w1 from (by repeat (first | (with_reducible exact Below.refl _ _) | (with_reducible refine Below.drew ?_) | (with_reducible refine below_drewN ?_ _) | ((with_reducible refine below_alloc ?_ ?_ _); · (first | exact Nat.le_refl _ | omega | (simp; done) | (simp; omega) | (simp at *; omega))) | ((with_reducible refine below_set ?_ ?_ _); · (first | exact Nat.le_refl _ | omega | (simp; done) | (simp; omega) | (simp at *; omega))) | ((with_reducible refine below_via (by with_reducible assumption) ?_ ?_); · (first | exact Nat.le_refl _ | omega | (simp; done) | (simp; omega) | (simp at *; omega))))))
  have hs1 := HB1.out.size
  clear hb1
  go_wp2_with fail
  refine (awake_any _).mono ?_
  rintro e w2 ⟨rfl, hb2⟩
  have HB2 := Lib.hid (HB1.out.trans (hb2.mono hs1))
  clear hb2
  go_wp2_with fail
  go_ret
  exact ⟨rfl, HB2.out⟩
theorem lfouls_any (st : St) (pA gA : Option Addr) (pc gc : Nat) (lA : Option Addr) (ln lc : Nat) (X : Nat → Int) (fA : Option Addr) (fn fc : Nat) (F : Nat → Int) (iA : Option Addr) (gn ic : Nat) (G : Nat → Int) (W : World) (hp : PkRow W W.heap.size pA st.n st.P) (hg : GdRow W W.heap.size gA st.m st.G) (hl : IntRow W W.heap.size lA ln X) (hlf : IntRow W W.heap.size fA fn F) (hlg : IntRow W W.heap.size iA gn G) (hpc : st.n ≤ pc) (hgc : st.m ≤ gc) :
    Calls Try.prog 14 #[stV pA st.n pc gA st.m gc st.lots, .slice lA ln lc, .slice fA fn fc, .slice iA gn ic] W fun e W' => e = .returned (.bool true) ∧ Below W.heap.size W W' := by
  cases h1 : (decide (6 < st.n) || decide (6 < st.m)) with
  | true => exact fouls_long0 st pA gA pc gc lA ln lc fA fn fc iA gn ic W h1
  | false =>
    by_cases h2 : (8 : Int) < (ln : Int)
    · exact fouls_long1 st pA gA pc gc lA ln lc fA fn fc iA gn ic W h1 h2
    · by_cases h3 : (8 : Int) < (fn : Int)
      · exact fouls_long2 st pA gA pc gc lA ln lc fA fn fc iA gn ic W h1 h2 h3
      · by_cases h4 : (8 : Int) < (gn : Int)
        · exact fouls_long3 st pA gA pc gc lA ln lc fA fn fc iA gn ic W h1 h2 h3 h4
        · have h5 : st.n ≤ 6 ∧ st.m ≤ 6 := by simp at h1; omega
          exact fouls_in st W.heap.size pA gA pc gc lA ln lc X fA fn fc F iA gn ic G W ⟨Nat.le_refl _, hp, hg, by omega, by omega, hpc, hgc⟩ hl hlf hlg h5.1 h5.2 (by omega) (by omega) (by omega)
end Go.Proofs.Ytegmomappbehcaa
