/- BinSettled's loops: over the results of a weighing, and over the contents. -/
import Derived.Test.YtnnikeolgknfoaaI2
import Derived.Test.YtnnikeolgknfoaaNq
set_option linter.unusedSimpArgs false
set_option linter.unusedVariables false
namespace Go.Proofs.Ytnnikeolgknfoaa
open Go.RowKit Go.Shelf

abbrev fn1 : Value := .func (.func 26) #[] #[]
abbrev fn2 : Value := .func (.func 27) #[] #[]

set_option maxRecDepth 100000 in
set_option maxHeartbeats 8000000 in
theorem settled_loop1 (r : Rw) (HOK : Hid r.ok) (H0 : Hid (r.round = [])) (h1d : 1 ≤ r.d) (hm4 : r.m ≤ 4) (hn6 : r.n ≤ 6) (f t : Nat) (hft : f ≤ t) (ht : t < r.n) (rx sx : Nat) (lo hi : Int) (HL : Hid (lo = (r.span f t).a ∧ hi = (r.span f t).b)) (hb : 0 ≤ lo ∧ lo ≤ hi ∧ hi ≤ 2100 ∧ hi - lo ≤ 128) (bA dA vA : Option Addr) (bc dc vc : Nat) {u0 u1 u2 u3 u4 u5 u6 u8 u9 u14 u15 u16 u17 u19 u20 u21 u22 u23 u24 u27 u28 u29 u30 u31 u32 u33 u34 u35 u36 u37 u38 u39 u40 u41 u42 u43 u44 u45 u46 u47 u48 u49 u50 u51 u52 u53 u54 u55 u56 u57 u58 u59 u60 u61 u62 u63 u64 u65 u66 u67 u68 u69 u70 u71 u72 u73 u74 u75 u76 u77 u78 u79 u80 u81 u82 u83 u84 u85 u86 u87 u88 u89 u90 u91 u92 u93 u94 u95 u96 u97 u98 u99 u100 u101 u102 u103 u104 u105 u106 u107 u108 u109 u110 u111 u112 u113 u114 u115 u116 u117 u118 u119 u120 u121 u122 u123 u124 u125 u126 u127 u128 u129 u130 u131 u132 u133 u134 u135 u136 u137 u138 u139 u140 u141 u142 u143 u144 u145 u146 u147 u148 u149 u150 u151 u152 u153 u154 u155 u156 u157 u158 u159 u160 u161 u162 u163 u164 u165 u166 u167 u168 u169 u170 u171 u172 u173 u174 u175 u176 u177 u178 u179 u180 u181 u182 u183 u184 u185 u186 u187 u188 u189 u190 u191 u192 u193 u194 u195 u196 u197 u198 u199 u200 u201 : Value} (w : World)
    (HR : Hid (RwRow w w.heap.size r bA bc dA dc vA vc)) (HA : Hid (RwAt w rx r bA bc dA dc vA vc)) (HS : Hid (N2c w sx lo hi))
    (Q : Exit → Act → World → Prop) (hK : ∀ {x6 x26 x27 x28 x145 x146 x147 x148 x149 x150 x151 x152 x153 x154 x155 x156 x157 x158 x159 x160 x161 x162 x163 x164 x165 x166 : Value} (w' : World), Hid (Below w.heap.size w w') → Q .normal ⟨(List.toArray (u0 :: u1 :: u2 :: u3 :: u4 :: u5 :: x6 :: (.pointer (some ⟨rx, 0, none⟩)) :: u8 :: u9 :: (.int .i64 (f : Int)) :: (.int .i64 (t : Int)) :: (fn1) :: (fn2) :: u14 :: u15 :: u16 :: u17 :: (.pointer (some ⟨sx, 0, none⟩)) :: u19 :: u20 :: u21 :: u22 :: u23 :: u24 :: (.int .i64 (settled r.search.1.L f t r.n)) :: x26 :: x27 :: x28 :: u29 :: u30 :: u31 :: u32 :: u33 :: u34 :: u35 :: u36 :: u37 :: u38 :: u39 :: u40 :: u41 :: u42 :: u43 :: u44 :: u45 :: u46 :: u47 :: u48 :: u49 :: u50 :: u51 :: u52 :: u53 :: u54 :: u55 :: u56 :: u57 :: u58 :: u59 :: u60 :: u61 :: u62 :: u63 :: u64 :: u65 :: u66 :: u67 :: u68 :: u69 :: u70 :: u71 :: u72 :: u73 :: u74 :: u75 :: u76 :: u77 :: u78 :: u79 :: u80 :: u81 :: u82 :: u83 :: u84 :: u85 :: u86 :: u87 :: u88 :: u89 :: u90 :: u91 :: u92 :: u93 :: u94 :: u95 :: u96 :: u97 :: u98 :: u99 :: u100 :: u101 :: u102 :: u103 :: u104 :: u105 :: u106 :: u107 :: u108 :: u109 :: u110 :: u111 :: u112 :: u113 :: u114 :: u115 :: u116 :: u117 :: u118 :: u119 :: u120 :: u121 :: u122 :: u123 :: u124 :: u125 :: u126 :: u127 :: u128 :: u129 :: u130 :: u131 :: u132 :: u133 :: u134 :: u135 :: u136 :: u137 :: u138 :: u139 :: u140 :: u141 :: u142 :: u143 :: u144 :: x145 :: x146 :: x147 :: x148 :: x149 :: x150 :: x151 :: x152 :: x153 :: x154 :: x155 :: x156 :: x157 :: x158 :: x159 :: x160 :: x161 :: x162 :: x163 :: x164 :: x165 :: x166 :: u167 :: u168 :: u169 :: u170 :: u171 :: u172 :: u173 :: u174 :: u175 :: u176 :: u177 :: u178 :: u179 :: u180 :: u181 :: u182 :: u183 :: u184 :: u185 :: u186 :: u187 :: u188 :: u189 :: u190 :: u191 :: u192 :: u193 :: u194 :: u195 :: u196 :: u197 :: u198 :: u199 :: u200 :: u201 :: [])), []⟩ w') :
    Code.wp Try.prog (blkIn Try.f6 0) Q ⟨(List.toArray (u0 :: u1 :: u2 :: u3 :: u4 :: u5 :: u6 :: (.pointer (some ⟨rx, 0, none⟩)) :: u8 :: u9 :: (.int .i64 (f : Int)) :: (.int .i64 (t : Int)) :: (fn1) :: (fn2) :: u14 :: u15 :: u16 :: u17 :: (.pointer (some ⟨sx, 0, none⟩)) :: u19 :: u20 :: u21 :: u22 :: u23 :: u24 :: (.int .i64 0) :: (.int .i64 lo) :: u27 :: u28 :: u29 :: u30 :: u31 :: u32 :: u33 :: u34 :: u35 :: u36 :: u37 :: u38 :: u39 :: u40 :: u41 :: u42 :: u43 :: u44 :: u45 :: u46 :: u47 :: u48 :: u49 :: u50 :: u51 :: u52 :: u53 :: u54 :: u55 :: u56 :: u57 :: u58 :: u59 :: u60 :: u61 :: u62 :: u63 :: u64 :: u65 :: u66 :: u67 :: u68 :: u69 :: u70 :: u71 :: u72 :: u73 :: u74 :: u75 :: u76 :: u77 :: u78 :: u79 :: u80 :: u81 :: u82 :: u83 :: u84 :: u85 :: u86 :: u87 :: u88 :: u89 :: u90 :: u91 :: u92 :: u93 :: u94 :: u95 :: u96 :: u97 :: u98 :: u99 :: u100 :: u101 :: u102 :: u103 :: u104 :: u105 :: u106 :: u107 :: u108 :: u109 :: u110 :: u111 :: u112 :: u113 :: u114 :: u115 :: u116 :: u117 :: u118 :: u119 :: u120 :: u121 :: u122 :: u123 :: u124 :: u125 :: u126 :: u127 :: u128 :: u129 :: u130 :: u131 :: u132 :: u133 :: u134 :: u135 :: u136 :: u137 :: u138 :: u139 :: u140 :: u141 :: u142 :: u143 :: u144 :: u145 :: u146 :: u147 :: u148 :: u149 :: u150 :: u151 :: u152 :: u153 :: u154 :: u155 :: u156 :: u157 :: u158 :: u159 :: u160 :: u161 :: u162 :: u163 :: u164 :: u165 :: u166 :: u167 :: u168 :: u169 :: u170 :: u171 :: u172 :: u173 :: u174 :: u175 :: u176 :: u177 :: u178 :: u179 :: u180 :: u181 :: u182 :: u183 :: u184 :: u185 :: u186 :: u187 :: u188 :: u189 :: u190 :: u191 :: u192 :: u193 :: u194 :: u195 :: u196 :: u197 :: u198 :: u199 :: u200 :: u201 :: [])), []⟩ w := by
  (conv => arg 2; whnf)
  go_wp2_with fail
  go_loopw [25, 26] (fun g i wr => ∃ j : Nat, (j : Int) ≤ hi - lo + 1 ∧ i = .int .i64 (lo + j) ∧ g = .int .i64 (settlesN r.search.1.L f t r.n j) ∧ Hid (Below w.heap.size w wr)) (fun _ i _ => (hi + 1 - intOf i).toNat)
  case atStart => exact ⟨0, by omega, by simp, rfl, Lib.hid (Below.refl _ _)⟩
  case round =>
    obtain ⟨j, hj, rfl, rfl, HBw⟩ := hrel
    obtain ⟨wo, rfl⟩ : ∃ wo, wo = wr := ⟨_, rfl⟩
    have hsw := HBw.out.size
    obtain ⟨e0, e1⟩ := HS.out.later HBw.out
    by_cases hle : lo + (j : Int) ≤ hi
    · have ek : IntKind.i64.wrap (lo + (j : Int) + 1) = lo + (j : Int) + 1 := IntWalk.i64_in _ (by omega)
      obtain ⟨c0, c1, c2⟩ := HA.out.later HBw.out
      have hlL : lo = -r.search.1.L (t + 1) f := HL.out.1
      have hhL : hi = r.search.1.L f (t + 1) := HL.out.2
      have HF := Lib.hid (Rw.fin_nil HOK.out H0.out)
      have HKK : Hid (-r.search.1.L (t + 1) f ≤ lo + (j : Int) ∧ lo + (j : Int) ≤ r.search.1.L f (t + 1)) := Lib.hid (by omega)
      have HOX := Lib.hid (exact_ok HOK.out (by omega) hft ht (k := lo + (j : Int)) (by omega))
      have e2 : settlesN r.search.1.L f t r.n (j + 1) = max (settlesN r.search.1.L f t r.n j) (widthN r.search.1.L f t (lo + (j : Int)) r.n) := by rw [hlL]; rfl
      have HE := Lib.hid e2
      have e3 := exact_wid HOK.out HF.out hft ht HKK.out HOX.out
      have HE3 := Lib.hid e3
      obtain ⟨u, hu⟩ : ∃ x, x = settlesN r.search.1.L f t r.n j := ⟨_, rfl⟩
      have HU := Lib.hid hu
      rw [← hu]
      clear hlL hhL e2 e3 hu
      go_wp2_with fail
      refine (exact_any r HOK.out h1d (by omega) f t (lo + (j : Int)) ⟨by dsimp only; omega, by dsimp only; omega, by dsimp only; omega, by dsimp only; omega, by dsimp only; omega⟩ bA dA vA bc dc vc _ (HR.out.on HBw.out)).mono ?_
      rintro e w2 ⟨bA', dA', vA', bc', dc', vc', rfl, hr2, hb2, -⟩
      have HR2 := Lib.hid hr2
      have HB2 := Lib.hid (HBw.out.trans (hb2.mono hsw))
      have hs2 := HB2.out.size
      clear hr2 hb2 c0 c1 c2
      go_wp2_with fail
      refine (wid_any (r.more ⟨f, t, lo + (j : Int), 0⟩) HOX.out (exact_round HOK.out HF.out hft ht HKK.out HOX.out) bA' dA' vA' bc' dc' vc' _ HR2.out).mono ?_
      rintro e w3 ⟨rfl, hb3⟩
      have HB3 := Lib.hid (HB2.out.trans (hb3.mono hs2))
      rw [HE3.out]
      obtain ⟨x, hx⟩ : ∃ x, x = widthN r.search.1.L f t (lo + (j : Int)) r.n := ⟨_, rfl⟩
      have HX := Lib.hid hx
      rw [← hx]
      clear hb3 hx e0 e1
      go_wp2_with fail
      go_roundw
      case rel => exact ⟨j + 1, by omega, by rw [Int.natCast_add, ← Int.add_assoc]; rfl, by rw [HE.out, HU.out, HX.out], HB3⟩
      case measure => simp [intOf]; omega
    · have hj2 : (j : Int) = hi - lo + 1 := by omega
      have es : settled r.search.1.L f t r.n = settlesN r.search.1.L f t r.n j := by
        unfold settled
        have hlL : lo = -r.search.1.L (t + 1) f := HL.out.1
        have hhL : hi = r.search.1.L f (t + 1) := HL.out.2
        congr 1
        omega
      rw [es] at hK
      clear hj2 es
      go_wp2_with fail
      all_goals exact HBw
/-- a row in a box that can be written -/
def AlAt (w : World) (ax : Nat) (r : Rw) : Prop :=
  ∃ (bA dA vA : Option Addr) (bc dc vc : Nat), V3 w ax (.slice bA r.n bc) (.slice dA r.d dc) (.slice vA r.m vc) ∧ RwRow w w.heap.size r bA bc dA dc vA vc ∧ ∀ a, (bA = some a ∨ dA = some a ∨ vA = some a) → a.block ≠ ax

set_option maxRecDepth 100000 in
set_option maxHeartbeats 8000000 in
theorem settled_loop2 (r : Rw) (HOK : Hid r.ok) (h1d : 1 ≤ r.d) (hm4 : r.m ≤ 4) (hn4 : r.n ≤ 4) (X : Nat → Int) (HX : Hid (r.fits X)) (HXB : Hid (∀ k, k < r.n → 0 ≤ X k ∧ X k ≤ 3000)) (ax : Nat) (xA : Option Addr) (xc : Nat) {u0 u1 u2 u3 u4 u5 u6 u7 u8 u9 u10 u11 u12 u14 u15 u16 u17 u18 u19 u20 u21 u22 u23 u24 u25 u26 u27 u28 u30 u31 u32 u33 u34 u35 u36 u37 u38 u39 u40 u41 u42 u43 u44 u45 u46 u47 u48 u49 u50 u51 u52 u53 u54 u55 u56 u57 u58 u59 u60 u61 u62 u63 u64 u65 u66 u67 u68 u69 u70 u71 u72 u73 u74 u75 u76 u77 u78 u79 u80 u81 u82 u83 u84 u85 u86 u87 u88 u89 u90 u91 u92 u93 u94 u95 u96 u97 u98 u99 u100 u101 u102 u103 u104 u105 u106 u107 u108 u109 u110 u111 u112 u113 u114 u115 u116 u117 u118 u119 u120 u121 u122 u123 u124 u125 u126 u127 u128 u129 u130 u131 u132 u133 u134 u135 u136 u137 u138 u139 u140 u141 u142 u143 u144 u145 u146 u147 u148 u149 u150 u151 u152 u153 u154 u155 u156 u157 u158 u159 u160 u161 u162 u163 u164 u165 u166 u167 u168 u172 u173 u174 u175 u176 u177 u178 u179 u180 u181 u182 u183 u184 u185 u186 u187 u188 u189 u190 u191 u192 u193 u194 u195 u196 u197 u198 u199 u200 u201 : Value} (w : World)
    (HXR : Hid (IntRow w ax xA r.n X)) (HA : Hid (AlAt w ax r))
    (Q : Exit → Act → World → Prop) (hK : ∀ {x30 x31 x171 x172 x173 x174 x175 x176 x177 x178 x179 x180 x181 x182 : Value} (w' : World), Hid (Below ax w w') → Hid (AlAt w' ax (r.alls X r.n)) → Q .normal ⟨(List.toArray (u0 :: u1 :: u2 :: u3 :: u4 :: u5 :: u6 :: u7 :: u8 :: u9 :: u10 :: u11 :: u12 :: (fn2) :: u14 :: u15 :: u16 :: u17 :: u18 :: u19 :: u20 :: u21 :: u22 :: u23 :: u24 :: u25 :: u26 :: u27 :: u28 :: (.pointer (some ⟨ax, 0, none⟩)) :: x30 :: x31 :: u32 :: u33 :: u34 :: u35 :: u36 :: u37 :: u38 :: u39 :: u40 :: u41 :: u42 :: u43 :: u44 :: u45 :: u46 :: u47 :: u48 :: u49 :: u50 :: u51 :: u52 :: u53 :: u54 :: u55 :: u56 :: u57 :: u58 :: u59 :: u60 :: u61 :: u62 :: u63 :: u64 :: u65 :: u66 :: u67 :: u68 :: u69 :: u70 :: u71 :: u72 :: u73 :: u74 :: u75 :: u76 :: u77 :: u78 :: u79 :: u80 :: u81 :: u82 :: u83 :: u84 :: u85 :: u86 :: u87 :: u88 :: u89 :: u90 :: u91 :: u92 :: u93 :: u94 :: u95 :: u96 :: u97 :: u98 :: u99 :: u100 :: u101 :: u102 :: u103 :: u104 :: u105 :: u106 :: u107 :: u108 :: u109 :: u110 :: u111 :: u112 :: u113 :: u114 :: u115 :: u116 :: u117 :: u118 :: u119 :: u120 :: u121 :: u122 :: u123 :: u124 :: u125 :: u126 :: u127 :: u128 :: u129 :: u130 :: u131 :: u132 :: u133 :: u134 :: u135 :: u136 :: u137 :: u138 :: u139 :: u140 :: u141 :: u142 :: u143 :: u144 :: u145 :: u146 :: u147 :: u148 :: u149 :: u150 :: u151 :: u152 :: u153 :: u154 :: u155 :: u156 :: u157 :: u158 :: u159 :: u160 :: u161 :: u162 :: u163 :: u164 :: u165 :: u166 :: u167 :: u168 :: (.slice xA r.n xc) :: (.int .i64 (r.n : Int)) :: x171 :: x172 :: x173 :: x174 :: x175 :: x176 :: x177 :: x178 :: x179 :: x180 :: x181 :: x182 :: u183 :: u184 :: u185 :: u186 :: u187 :: u188 :: u189 :: u190 :: u191 :: u192 :: u193 :: u194 :: u195 :: u196 :: u197 :: u198 :: u199 :: u200 :: u201 :: [])), []⟩ w') :
    Code.wp Try.prog (blkIn Try.f6 2) Q ⟨(List.toArray (u0 :: u1 :: u2 :: u3 :: u4 :: u5 :: u6 :: u7 :: u8 :: u9 :: u10 :: u11 :: u12 :: (fn2) :: u14 :: u15 :: u16 :: u17 :: u18 :: u19 :: u20 :: u21 :: u22 :: u23 :: u24 :: u25 :: u26 :: u27 :: u28 :: (.pointer (some ⟨ax, 0, none⟩)) :: u30 :: u31 :: u32 :: u33 :: u34 :: u35 :: u36 :: u37 :: u38 :: u39 :: u40 :: u41 :: u42 :: u43 :: u44 :: u45 :: u46 :: u47 :: u48 :: u49 :: u50 :: u51 :: u52 :: u53 :: u54 :: u55 :: u56 :: u57 :: u58 :: u59 :: u60 :: u61 :: u62 :: u63 :: u64 :: u65 :: u66 :: u67 :: u68 :: u69 :: u70 :: u71 :: u72 :: u73 :: u74 :: u75 :: u76 :: u77 :: u78 :: u79 :: u80 :: u81 :: u82 :: u83 :: u84 :: u85 :: u86 :: u87 :: u88 :: u89 :: u90 :: u91 :: u92 :: u93 :: u94 :: u95 :: u96 :: u97 :: u98 :: u99 :: u100 :: u101 :: u102 :: u103 :: u104 :: u105 :: u106 :: u107 :: u108 :: u109 :: u110 :: u111 :: u112 :: u113 :: u114 :: u115 :: u116 :: u117 :: u118 :: u119 :: u120 :: u121 :: u122 :: u123 :: u124 :: u125 :: u126 :: u127 :: u128 :: u129 :: u130 :: u131 :: u132 :: u133 :: u134 :: u135 :: u136 :: u137 :: u138 :: u139 :: u140 :: u141 :: u142 :: u143 :: u144 :: u145 :: u146 :: u147 :: u148 :: u149 :: u150 :: u151 :: u152 :: u153 :: u154 :: u155 :: u156 :: u157 :: u158 :: u159 :: u160 :: u161 :: u162 :: u163 :: u164 :: u165 :: u166 :: u167 :: u168 :: (.slice xA r.n xc) :: (.int .i64 (r.n : Int)) :: (.int .i64 0) :: u172 :: u173 :: u174 :: u175 :: u176 :: u177 :: u178 :: u179 :: u180 :: u181 :: u182 :: u183 :: u184 :: u185 :: u186 :: u187 :: u188 :: u189 :: u190 :: u191 :: u192 :: u193 :: u194 :: u195 :: u196 :: u197 :: u198 :: u199 :: u200 :: u201 :: [])), []⟩ w := by
  (conv => arg 2; whnf)
  go_wp2_with fail
  go_loopw [171] (fun i wr => ∃ j : Nat, j ≤ r.n ∧ i = .int .i64 j ∧ Hid (Below ax w wr) ∧ Hid (AlAt wr ax (r.alls X j))) (fun i _ => r.n - (intOf i).toNat)
  case atStart => exact ⟨0, by omega, rfl, Lib.hid (Below.refl _ _), HA⟩
  case round =>
    obtain ⟨j, hj, rfl, HBw, HAw⟩ := hrel
    obtain ⟨wo, rfl⟩ : ∃ wo, wo = wr := ⟨_, rfl⟩
    by_cases hlt : j < r.n
    · have hj0 : (0 : Int) ≤ (j : Int) := by omega
      have hjn : (j : Int) < ((r.n : Nat) : Int) := by omega
      have ek : IntKind.i64.wrap ((j : Int) + 1) = (j : Int) + 1 := IntWalk.i64_in _ (by omega)
      obtain ⟨xb, xo, hxA, hxl, q0⟩ := (HXR.out.below HBw.out) j hlt
      obtain ⟨bA, dA, vA, bc, dc, vc, hv, hrw, hne⟩ := HAw.out
      have hn := Rw.alls_n r X j
      have hd : (r.alls X j).d = r.d := Rw.alls_d r X j
      have hok := (Rw.alls_ok HOK.out HX.out HXB.out j (by omega) (by omega)).1
      have HOJ := Lib.hid hok
      have hxb := HXB.out j hlt
      have HV := Lib.hid hv
      have HRW := Lib.hid hrw
      have hmj : (r.alls X j).m < 10 := by omega
      have hdj : 1 ≤ (r.alls X j).d := by omega
      have hjj : j < (r.alls X j).n := by omega
      obtain ⟨R, hR⟩ : ∃ R, R = r.alls X j := ⟨_, rfl⟩
      have HRR := Lib.hid hR
      rw [← hR] at HOJ HRW HV hmj hdj hjj
      obtain ⟨x, hx⟩ : ∃ x, x = X j := ⟨_, rfl⟩
      have HXX := Lib.hid hx
      rw [← hx] at q0 hxb
      obtain ⟨c0, c1, c2, f0, f1, f2⟩ := HV.out
      have haxl := HV.out.lt
      subst hxA
      clear hn hd hok hv hrw hR hx hne HAw
      go_wp2_with fail
      refine (exact_any R HOJ.out hdj hmj j j x ⟨by dsimp only; omega, by dsimp only; omega, by dsimp only; omega, by dsimp only; omega, by dsimp only; omega⟩ bA dA vA bc dc vc _ HRW.out).mono ?_
      rintro e w2 ⟨bA', dA', vA', bc', dc', vc', rfl, hr2, hb2, hne2⟩
      have HR2 := Lib.hid hr2
      have HN2 := Lib.hid hne2
      have hs2 := hb2.size
      have HV2 := Lib.hid (HV.out.same (hb2.block _ haxl))
      have HB2 := Lib.hid (HBw.out.trans (hb2.mono (by omega)))
      clear hr2 hb2 hne2 c0 c1 c2 f0 f1 f2 q0 HV HRW
      obtain ⟨c0, c1, c2, f0, f1, f2⟩ := HV2.out
      go_upto_region 29 with fail
      refine wp_world (fun w' => Below ax w w' ∧ AlAt w' ax (R.more ⟨j, j, x, 0⟩)) ⟨((HB2.out.setCell (by dsimp only; omega) _).setCell (by dsimp only; omega) _).setCell (by dsimp only; omega) _, bA', dA', vA', bc', dc', vc', ((HV2.out.set0 _).set1 _).set2 _, HR2.out.keepS (fun a ha => by
        have h1 := HN2.out a ha
        have h2 : a.block ≠ ax := by omega
        exact (set_heap _ (by exact h2)).trans ((set_heap _ (by exact h2)).trans (set_heap _ (by exact h2)))) (by simp [World.setCell]) (Nat.le_refl _), fun a ha => by
        have h1 := HN2.out a ha
        omega⟩ ?_
      rintro w3 ⟨hb3, ha3⟩
      have HB3 := Lib.hid hb3
      have HA3 : Hid (AlAt w3 ax (r.alls X (j + 1))) := Lib.hid (by
        show AlAt w3 ax ((r.alls X j).more ⟨j, j, X j, 0⟩)
        rw [← HRR.out, ← HXX.out]
        exact ha3)
      clear hb3 ha3 c0 c1 c2 f0 f1 f2 HV2 HB2 HR2 HN2
      go_wp2_with fail
      go_roundw
      case rel => exact ⟨j + 1, by omega, by go_num, HB3, HA3⟩
      case measure => simp [intOf]; omega
    · obtain rfl : j = r.n := by omega
      have hge : ¬ ((r.n : Nat) : Int) < ((r.n : Nat) : Int) := by omega
      go_wp2_with fail
      exact hK _ HBw HAw
end Go.Proofs.Ytnnikeolgknfoaa
