/- BinTold: the list of contents that fit. -/
import Derived.Test.YtnnikeolgknfoaaGreatTxo
import Derived.Test.YtnnikeolgknfoaaGreatU2
import Derived.Test.YtnnikeolgknfoaaGreatBg
import Derived.Test.YtnnikeolgknfoaaGreatD3
import Derived.Test.YtnnikeolgknfoaaGreatE4
import Derived.Test.YtnnikeolgknfoaaGreatNq
import Derived.Deep.CutBlock
import Derived.Test.YtnnikeolgknfoaaGreatJa
set_option linter.unusedSimpArgs false
set_option linter.unusedVariables false
namespace Go.Proofs.YtnnikeolgknfoaaGreat
open Go.RowKit Go.Shelf

/-- a row in a box -/
def RowIx (w : World) (b : Nat) (r : Rw) : Prop := ∃ (bA dA vA : Option Addr) (bc dc vc : Nat), RwAt w b r bA bc dA dc vA vc ∧ RwRow w w.heap.size r bA bc dA dc vA vc
theorem RowIx.later {w w' : World} {b : Nat} {r : Rw} (h : RowIx w b r) (hb : Below w.heap.size w w') : RowIx w' b r := by
  obtain ⟨bA, dA, vA, bc, dc, vc, h1, h2⟩ := h
  exact ⟨bA, dA, vA, bc, dc, vc, h1.later hb, h2.on hb⟩
/-- a list of contents that fit -/
def LsRow (w : World) (r : Rw) (A : Option Addr) (m : Nat) : Prop :=
  ∀ q, q < m → ∃ (b : Nat) (xA : Option Addr) (xc : Nat) (X : Nat → Int), A = some ⟨b, 0, none⟩ ∧ b < w.heap.size ∧ w.cell? ⟨b, q, none⟩ = some (.slice xA r.n xc) ∧ IntRow w w.heap.size xA r.n X ∧ r.fits X ∧ bdX r.n X
theorem LsRow.later {w w' : World} {r : Rw} {A : Option Addr} {m : Nat} (h : LsRow w r A m) (hb : Below w.heap.size w w') : LsRow w' r A m := fun q hq => by
  obtain ⟨b, xA, xc, X, h1, h2, h3, h4, h5, h6⟩ := h q hq
  exact ⟨b, xA, xc, X, h1, Nat.lt_of_lt_of_le h2 hb.size, Kb hb h3, h4.later hb, h5, h6⟩

set_option maxRecDepth 100000 in
set_option maxHeartbeats 8000000 in
theorem told_loop6 (r : Rw) (HOK : Hid r.ok) (lA : Option Addr) (m : Nat) (hm7 : m ≤ 7) (a b : Nat) (hab : a ≤ b) (hbn : b < r.n) (sx pp : Nat) {u0 u1 u2 u3 u4 u5 u6 u7 u8 u9 u10 u11 u12 u13 u14 u15 u16 u17 u18 u21 u22 u23 u24 u25 u26 u27 u28 u29 u30 u31 u32 u33 u34 u35 u36 u37 u38 u39 u40 u41 u42 u43 u44 u45 u46 u47 u48 u49 u50 u51 u52 u53 u54 u55 u56 u57 u58 u59 u60 u61 u62 u63 u64 u65 u66 u67 u68 u69 u70 u71 u72 u73 u74 u75 u76 u77 u78 u79 u80 u81 u82 u83 u84 u85 u86 u87 u88 u89 u90 u91 u92 u93 u94 u95 u96 u97 u98 u99 u100 u101 u102 u103 u104 u105 u106 u107 u108 u109 u110 u111 u112 u113 u114 u115 u116 u117 u118 u119 u120 u121 u122 u123 u124 u125 u126 u127 u128 u129 u130 u131 u132 u136 u137 u138 u139 u140 u141 u142 u143 u144 u145 u146 u147 u148 u149 u150 u151 u152 u153 u154 u155 u156 u157 u158 u159 u160 u161 u162 u163 u164 u165 u166 u167 u168 u169 u170 u171 u172 u173 u174 u175 u176 u177 u178 u179 u180 u181 u182 u183 u184 u185 u186 u187 u188 u189 u190 u191 u192 u193 u194 u195 u196 u197 u198 u199 u200 u201 u202 u203 u204 u205 u206 u207 u208 u209 u210 u211 u212 u213 u214 u215 u216 u217 u218 u219 u220 u221 u222 u223 u224 u225 u226 u227 u228 u229 u230 u231 u232 : Value} (lc : Nat) (w : World) (HL : Hid (LsRow w r lA m)) (HP : Hid (N2c w pp a b)) (HW : Hid (N2c w sx (r.span a b).a (r.span a b).b))
    (Q : Exit → Act → World → Prop) (hK : ∀ {x4 x23 x135 x136 x137 x138 x139 x140 x141 x142 x143 x144 x145 x146 x147 x148 : Value} (w' : World), Hid (Below w.heap.size w w') → Q .normal ⟨(List.toArray (u0 :: u1 :: u2 :: u3 :: x4 :: u5 :: u6 :: u7 :: u8 :: u9 :: u10 :: u11 :: u12 :: u13 :: u14 :: u15 :: u16 :: u17 :: u18 :: (.pointer (some ⟨pp, 0, none⟩)) :: (.pointer (some ⟨sx, 0, none⟩)) :: u21 :: u22 :: x23 :: u24 :: u25 :: u26 :: u27 :: u28 :: u29 :: u30 :: u31 :: u32 :: u33 :: u34 :: u35 :: u36 :: u37 :: u38 :: u39 :: u40 :: u41 :: u42 :: u43 :: u44 :: u45 :: u46 :: u47 :: u48 :: u49 :: u50 :: u51 :: u52 :: u53 :: u54 :: u55 :: u56 :: u57 :: u58 :: u59 :: u60 :: u61 :: u62 :: u63 :: u64 :: u65 :: u66 :: u67 :: u68 :: u69 :: u70 :: u71 :: u72 :: u73 :: u74 :: u75 :: u76 :: u77 :: u78 :: u79 :: u80 :: u81 :: u82 :: u83 :: u84 :: u85 :: u86 :: u87 :: u88 :: u89 :: u90 :: u91 :: u92 :: u93 :: u94 :: u95 :: u96 :: u97 :: u98 :: u99 :: u100 :: u101 :: u102 :: u103 :: u104 :: u105 :: u106 :: u107 :: u108 :: u109 :: u110 :: u111 :: u112 :: u113 :: u114 :: u115 :: u116 :: u117 :: u118 :: u119 :: u120 :: u121 :: u122 :: u123 :: u124 :: u125 :: u126 :: u127 :: u128 :: u129 :: u130 :: u131 :: u132 :: (.slice lA m lc) :: (.int .i64 (m : Int)) :: x135 :: x136 :: x137 :: x138 :: x139 :: x140 :: x141 :: x142 :: x143 :: x144 :: x145 :: x146 :: x147 :: x148 :: u149 :: u150 :: u151 :: u152 :: u153 :: u154 :: u155 :: u156 :: u157 :: u158 :: u159 :: u160 :: u161 :: u162 :: u163 :: u164 :: u165 :: u166 :: u167 :: u168 :: u169 :: u170 :: u171 :: u172 :: u173 :: u174 :: u175 :: u176 :: u177 :: u178 :: u179 :: u180 :: u181 :: u182 :: u183 :: u184 :: u185 :: u186 :: u187 :: u188 :: u189 :: u190 :: u191 :: u192 :: u193 :: u194 :: u195 :: u196 :: u197 :: u198 :: u199 :: u200 :: u201 :: u202 :: u203 :: u204 :: u205 :: u206 :: u207 :: u208 :: u209 :: u210 :: u211 :: u212 :: u213 :: u214 :: u215 :: u216 :: u217 :: u218 :: u219 :: u220 :: u221 :: u222 :: u223 :: u224 :: u225 :: u226 :: u227 :: u228 :: u229 :: u230 :: u231 :: u232 :: [])), []⟩ w') :
    Code.wp Tryz.prog (blkIn Tryz.f10 6) Q ⟨(List.toArray (u0 :: u1 :: u2 :: u3 :: u4 :: u5 :: u6 :: u7 :: u8 :: u9 :: u10 :: u11 :: u12 :: u13 :: u14 :: u15 :: u16 :: u17 :: u18 :: (.pointer (some ⟨pp, 0, none⟩)) :: (.pointer (some ⟨sx, 0, none⟩)) :: u21 :: u22 :: u23 :: u24 :: u25 :: u26 :: u27 :: u28 :: u29 :: u30 :: u31 :: u32 :: u33 :: u34 :: u35 :: u36 :: u37 :: u38 :: u39 :: u40 :: u41 :: u42 :: u43 :: u44 :: u45 :: u46 :: u47 :: u48 :: u49 :: u50 :: u51 :: u52 :: u53 :: u54 :: u55 :: u56 :: u57 :: u58 :: u59 :: u60 :: u61 :: u62 :: u63 :: u64 :: u65 :: u66 :: u67 :: u68 :: u69 :: u70 :: u71 :: u72 :: u73 :: u74 :: u75 :: u76 :: u77 :: u78 :: u79 :: u80 :: u81 :: u82 :: u83 :: u84 :: u85 :: u86 :: u87 :: u88 :: u89 :: u90 :: u91 :: u92 :: u93 :: u94 :: u95 :: u96 :: u97 :: u98 :: u99 :: u100 :: u101 :: u102 :: u103 :: u104 :: u105 :: u106 :: u107 :: u108 :: u109 :: u110 :: u111 :: u112 :: u113 :: u114 :: u115 :: u116 :: u117 :: u118 :: u119 :: u120 :: u121 :: u122 :: u123 :: u124 :: u125 :: u126 :: u127 :: u128 :: u129 :: u130 :: u131 :: u132 :: (.slice lA m lc) :: (.int .i64 (m : Int)) :: (.int .i64 0) :: u136 :: u137 :: u138 :: u139 :: u140 :: u141 :: u142 :: u143 :: u144 :: u145 :: u146 :: u147 :: u148 :: u149 :: u150 :: u151 :: u152 :: u153 :: u154 :: u155 :: u156 :: u157 :: u158 :: u159 :: u160 :: u161 :: u162 :: u163 :: u164 :: u165 :: u166 :: u167 :: u168 :: u169 :: u170 :: u171 :: u172 :: u173 :: u174 :: u175 :: u176 :: u177 :: u178 :: u179 :: u180 :: u181 :: u182 :: u183 :: u184 :: u185 :: u186 :: u187 :: u188 :: u189 :: u190 :: u191 :: u192 :: u193 :: u194 :: u195 :: u196 :: u197 :: u198 :: u199 :: u200 :: u201 :: u202 :: u203 :: u204 :: u205 :: u206 :: u207 :: u208 :: u209 :: u210 :: u211 :: u212 :: u213 :: u214 :: u215 :: u216 :: u217 :: u218 :: u219 :: u220 :: u221 :: u222 :: u223 :: u224 :: u225 :: u226 :: u227 :: u228 :: u229 :: u230 :: u231 :: u232 :: [])), []⟩ w := by
  (conv => arg 2; whnf)
  have hn6 := HOK.out.n6
  go_wp2_with fail
  go_loopw [135] (fun i wr => ∃ q : Nat, q ≤ m ∧ i = .int .i64 q ∧ Hid (Below w.heap.size w wr)) (fun i _ => m - (intOf i).toNat)
  case atStart => exact ⟨0, Nat.zero_le _, rfl, Lib.hid (Below.refl _ _)⟩
  case round =>
    obtain ⟨q, hq, rfl, HBw⟩ := hrel
    obtain ⟨wo, rfl⟩ : ∃ wo, wo = wr := ⟨_, rfl⟩
    have hsw := HBw.out.size
    by_cases hlt : q < m
    · have hq0 : (0 : Int) ≤ (q : Int) := by omega
      have hqn : (q : Int) < (m : Int) := by omega
      have eq1 : IntKind.i64.wrap ((q : Int) + 1) = (q : Int) + 1 := IntWalk.i64_in _ (by omega)
      obtain ⟨lb, xA, xc, X, rfl, hlb, hlc, hx, hfx, hbx⟩ := (HL.out.later HBw.out) q hlt
      have HX := Lib.hid hx
      have HBX := Lib.hid hbx
      have HIN := Lib.hid (Rw.told_in HOK.out hfx hab hbn)
      clear hx hbx hfx
      go_upto_region 31 with fail
      obtain ⟨hp0, hp1⟩ := HP.out.later HBw.out
      obtain ⟨hw0, hw1⟩ := HW.out.later HBw.out
      have q0 := cell_regrown hp0
      have q1 := cell_regrown hp1
      have q2 := cell_regrown hw0
      have q3 := cell_regrown hw1
      clear hp0 hp1 hw0 hw1
      refine region_qbw (by kernel_rfl) (by kernel_rfl) ?_
      repeat (first | go_big_quiet_step (first | (go_at_call 65; exact Calls.regrown_of (total_any r.n a b hn6 hab hbn X HBX.out xA xc _ (HX.out.later (below_regrown _ _ _)))) | (go_at_call 64; exact Calls.regrown_of (within_any _ (r.span a b) _))) | quiet_step (first | (go_at_call 65; exact Calls.regrown_of (total_any r.n a b hn6 hab hbn X HBX.out xA xc _ (HX.out.later (below_regrown _ _ _)))) | (go_at_call 64; exact Calls.regrown_of (within_any _ (r.span a b) _))))
      refine wpQuiet_nil ?_; intro wq hbq
      rw [HIN.out]
      have HBQ := Lib.hid (HBw.out.trans (hbq.mono hsw))
      clear q0 q1 q2 q3 hbq
      go_wp2_with fail
      go_roundw
      case rel => exact ⟨q + 1, by omega, by go_num, HBQ⟩
      case measure => simp [intOf]; omega
    · obtain rfl : q = m := by omega
      have hge : ¬ (q : Int) < (q : Int) := by omega
      go_wp2_with fail
      all_goals exact HBw
end Go.Proofs.YtnnikeolgknfoaaGreat

set_option linter.unusedSimpArgs false
set_option linter.unusedVariables false
namespace Go.Proofs.YtnnikeolgknfoaaGreat
open Go.RowKit Go.Shelf

/-- two booleans in a row -/
def Ft2 (w : World) (b : Nat) : Prop := w.cell? ⟨b, 0, none⟩ = some (.bool false) ∧ w.cell? ⟨b, 1, none⟩ = some (.bool true)
theorem Ft2.later {w w' : World} {b : Nat} (h : Ft2 w b) (hb : Below w.heap.size w w') : Ft2 w' b := ⟨Kb hb h.1, Kb hb h.2⟩
theorem Ft2.at {w : World} {b q : Nat} (h : Ft2 w b) (hq : q < 2) : w.cell? ⟨b, q, none⟩ = some (.bool (decide (q = 1))) := by
  obtain rfl | rfl : q = 0 ∨ q = 1 := by omega
  · exact h.1
  · exact h.2
/-- what a walk shows -/
theorem Rw.why_shows {r : Rw} (hr : r.ok) (h0 : r.round = []) {a b : Nat} (hab : a ≤ b) (hb : b < r.n) (most : Bool) {l : List Fc} (hc : Chain r (waysR a b most).1.toNat (waysR a b most).2.toNat l) (hs : wsum r l = r.search.1.L (waysR a b most).1.toNat (waysR a b most).2.toNat) (hl : l.length ≤ r.n) : r.showsR (a : Int) (b : Int) most l.length (fun k => l.getD k fc0) = (if most then (r.span a b).b else (r.span a b).a, 0) := by
  have h6 := hr.n6
  have h := shows_ways hr most (P := fun k => l.getD k fc0) hab hb (x := (waysR a b most).1.toNat) (y := (waysR a b most).2.toNat) (by unfold waysR; cases most <;> simp <;> omega) (by unfold waysR; cases most <;> simp <;> omega) (fun j _ => rfl) hc (by omega)
  rw [h, hs]
  cases most with
  | true =>
    show (r.search.1.L (a : Int).toNat ((b : Int) + 1).toNat, (0 : Int)) = (r.search.1.L a (b + 1), 0)
    rw [Int.toNat_natCast, show ((b : Int) + 1).toNat = b + 1 by omega]
  | false =>
    show (-r.search.1.L ((b : Int) + 1).toNat (a : Int).toNat, (0 : Int)) = (-r.search.1.L (b + 1) a, 0)
    rw [Int.toNat_natCast, show ((b : Int) + 1).toNat = b + 1 by omega]

set_option maxRecDepth 100000 in
set_option maxHeartbeats 16000000 in
theorem told_loop8 (r : Rw) (HOK : Hid r.ok) (HRD : Hid (r.round = [])) (a b : Nat) (hab : a ≤ b) (hbn : b < r.n) (rx sx pp bb : Nat) {u0 u1 u2 u3 u4 u6 u7 u8 u9 u10 u11 u12 u13 u14 u15 u16 u17 u18 u21 u22 u23 u24 u25 u26 u27 u28 u29 u30 u31 u32 u33 u34 u35 u36 u37 u38 u39 u40 u41 u42 u43 u44 u45 u46 u47 u48 u49 u50 u51 u52 u53 u54 u55 u56 u57 u58 u59 u60 u61 u62 u63 u64 u65 u66 u67 u68 u69 u70 u71 u72 u73 u74 u75 u76 u77 u78 u79 u80 u81 u82 u83 u84 u85 u86 u87 u88 u89 u90 u91 u92 u93 u94 u95 u96 u97 u98 u99 u100 u101 u102 u103 u104 u105 u106 u107 u108 u109 u110 u111 u112 u113 u114 u115 u116 u117 u118 u119 u120 u121 u122 u123 u124 u125 u126 u127 u128 u129 u130 u131 u132 u133 u134 u135 u136 u137 u138 u139 u140 u141 u142 u143 u144 u145 u146 u147 u148 u152 u153 u154 u155 u156 u157 u158 u159 u160 u161 u162 u163 u164 u165 u166 u167 u168 u169 u170 u171 u172 u173 u174 u175 u176 u177 u178 u179 u180 u181 u182 u183 u184 u185 u186 u187 u188 u189 u190 u191 u192 u193 u194 u195 u196 u197 u198 u199 u200 u201 u202 u203 u204 u205 u206 u207 u208 u209 u210 u211 u212 u213 u214 u215 u216 u217 u218 u219 u220 u221 u222 u223 u224 u225 u226 u227 u228 u229 u230 u231 u232 : Value} (w : World) (HR : Hid (RowIx w rx r)) (HP : Hid (N2c w pp a b)) (HW : Hid (N2c w sx (r.span a b).a (r.span a b).b)) (HF : Hid (Ft2 w bb))
    (Q : Exit → Act → World → Prop) (hK : ∀ {x4 x25 x26 x27 x28 x29 x30 x31 x32 x33 x34 x151 x152 x153 x154 x155 x156 x157 x158 x159 x160 x161 x162 x163 x164 x165 x166 x167 x168 x169 x170 x171 x172 x173 x174 x175 x176 x177 x178 x179 x180 x181 x182 x183 x184 x185 x186 x187 x188 x189 x190 x191 x192 x193 x194 x195 x196 x197 x198 x199 x200 x201 x202 x203 x204 x205 x206 x207 x208 x209 x210 x211 x212 x213 x214 x215 x216 x217 x218 x219 x220 x221 x222 x223 x224 x225 x226 x227 x228 x229 x230 : Value} (w' : World), Hid (Below w.heap.size w w') → Q .normal ⟨(List.toArray (u0 :: u1 :: u2 :: u3 :: x4 :: (.pointer (some ⟨rx, 0, none⟩)) :: u6 :: u7 :: u8 :: u9 :: u10 :: u11 :: u12 :: u13 :: u14 :: u15 :: u16 :: u17 :: u18 :: (.pointer (some ⟨pp, 0, none⟩)) :: (.pointer (some ⟨sx, 0, none⟩)) :: u21 :: u22 :: u23 :: u24 :: x25 :: x26 :: x27 :: x28 :: x29 :: x30 :: x31 :: x32 :: x33 :: x34 :: u35 :: u36 :: u37 :: u38 :: u39 :: u40 :: u41 :: u42 :: u43 :: u44 :: u45 :: u46 :: u47 :: u48 :: u49 :: u50 :: u51 :: u52 :: u53 :: u54 :: u55 :: u56 :: u57 :: u58 :: u59 :: u60 :: u61 :: u62 :: u63 :: u64 :: u65 :: u66 :: u67 :: u68 :: u69 :: u70 :: u71 :: u72 :: u73 :: u74 :: u75 :: u76 :: u77 :: u78 :: u79 :: u80 :: u81 :: u82 :: u83 :: u84 :: u85 :: u86 :: u87 :: u88 :: u89 :: u90 :: u91 :: u92 :: u93 :: u94 :: u95 :: u96 :: u97 :: u98 :: u99 :: u100 :: u101 :: u102 :: u103 :: u104 :: u105 :: u106 :: u107 :: u108 :: u109 :: u110 :: u111 :: u112 :: u113 :: u114 :: u115 :: u116 :: u117 :: u118 :: u119 :: u120 :: u121 :: u122 :: u123 :: u124 :: u125 :: u126 :: u127 :: u128 :: u129 :: u130 :: u131 :: u132 :: u133 :: u134 :: u135 :: u136 :: u137 :: u138 :: u139 :: u140 :: u141 :: u142 :: u143 :: u144 :: u145 :: u146 :: u147 :: u148 :: (.slice (some ⟨bb, 0, none⟩) 2 2) :: (.int .i64 2) :: x151 :: x152 :: x153 :: x154 :: x155 :: x156 :: x157 :: x158 :: x159 :: x160 :: x161 :: x162 :: x163 :: x164 :: x165 :: x166 :: x167 :: x168 :: x169 :: x170 :: x171 :: x172 :: x173 :: x174 :: x175 :: x176 :: x177 :: x178 :: x179 :: x180 :: x181 :: x182 :: x183 :: x184 :: x185 :: x186 :: x187 :: x188 :: x189 :: x190 :: x191 :: x192 :: x193 :: x194 :: x195 :: x196 :: x197 :: x198 :: x199 :: x200 :: x201 :: x202 :: x203 :: x204 :: x205 :: x206 :: x207 :: x208 :: x209 :: x210 :: x211 :: x212 :: x213 :: x214 :: x215 :: x216 :: x217 :: x218 :: x219 :: x220 :: x221 :: x222 :: x223 :: x224 :: x225 :: x226 :: x227 :: x228 :: x229 :: x230 :: u231 :: u232 :: [])), []⟩ w') :
    Code.wp Tryz.prog (blkIn Tryz.f10 8) Q ⟨(List.toArray (u0 :: u1 :: u2 :: u3 :: u4 :: (.pointer (some ⟨rx, 0, none⟩)) :: u6 :: u7 :: u8 :: u9 :: u10 :: u11 :: u12 :: u13 :: u14 :: u15 :: u16 :: u17 :: u18 :: (.pointer (some ⟨pp, 0, none⟩)) :: (.pointer (some ⟨sx, 0, none⟩)) :: u21 :: u22 :: u23 :: u24 :: u25 :: u26 :: u27 :: u28 :: u29 :: u30 :: u31 :: u32 :: u33 :: u34 :: u35 :: u36 :: u37 :: u38 :: u39 :: u40 :: u41 :: u42 :: u43 :: u44 :: u45 :: u46 :: u47 :: u48 :: u49 :: u50 :: u51 :: u52 :: u53 :: u54 :: u55 :: u56 :: u57 :: u58 :: u59 :: u60 :: u61 :: u62 :: u63 :: u64 :: u65 :: u66 :: u67 :: u68 :: u69 :: u70 :: u71 :: u72 :: u73 :: u74 :: u75 :: u76 :: u77 :: u78 :: u79 :: u80 :: u81 :: u82 :: u83 :: u84 :: u85 :: u86 :: u87 :: u88 :: u89 :: u90 :: u91 :: u92 :: u93 :: u94 :: u95 :: u96 :: u97 :: u98 :: u99 :: u100 :: u101 :: u102 :: u103 :: u104 :: u105 :: u106 :: u107 :: u108 :: u109 :: u110 :: u111 :: u112 :: u113 :: u114 :: u115 :: u116 :: u117 :: u118 :: u119 :: u120 :: u121 :: u122 :: u123 :: u124 :: u125 :: u126 :: u127 :: u128 :: u129 :: u130 :: u131 :: u132 :: u133 :: u134 :: u135 :: u136 :: u137 :: u138 :: u139 :: u140 :: u141 :: u142 :: u143 :: u144 :: u145 :: u146 :: u147 :: u148 :: (.slice (some ⟨bb, 0, none⟩) 2 2) :: (.int .i64 2) :: (.int .i64 0) :: u152 :: u153 :: u154 :: u155 :: u156 :: u157 :: u158 :: u159 :: u160 :: u161 :: u162 :: u163 :: u164 :: u165 :: u166 :: u167 :: u168 :: u169 :: u170 :: u171 :: u172 :: u173 :: u174 :: u175 :: u176 :: u177 :: u178 :: u179 :: u180 :: u181 :: u182 :: u183 :: u184 :: u185 :: u186 :: u187 :: u188 :: u189 :: u190 :: u191 :: u192 :: u193 :: u194 :: u195 :: u196 :: u197 :: u198 :: u199 :: u200 :: u201 :: u202 :: u203 :: u204 :: u205 :: u206 :: u207 :: u208 :: u209 :: u210 :: u211 :: u212 :: u213 :: u214 :: u215 :: u216 :: u217 :: u218 :: u219 :: u220 :: u221 :: u222 :: u223 :: u224 :: u225 :: u226 :: u227 :: u228 :: u229 :: u230 :: u231 :: u232 :: [])), []⟩ w := by
  (conv => arg 2; whnf)
  have hn6 := HOK.out.n6
  have HA0 := Lib.hid (Rw.ask_zero HOK.out HRD.out hab hbn)
  go_wp2_with fail
  go_loopw [151] (fun i wr => ∃ q : Nat, q ≤ 2 ∧ i = .int .i64 q ∧ Hid (Below w.heap.size w wr)) (fun i _ => 2 - (intOf i).toNat)
  case atStart => exact ⟨0, Nat.zero_le _, rfl, Lib.hid (Below.refl _ _)⟩
  case round =>
    obtain ⟨q, hq, rfl, HBw⟩ := hrel
    obtain ⟨wo, rfl⟩ : ∃ wo, wo = wr := ⟨_, rfl⟩
    have hsw := HBw.out.size
    by_cases hlt : q < 2
    · have hq0 : (0 : Int) ≤ (q : Int) := by omega
      have hqn : (q : Int) < 2 := by omega
      have eq1 : IntKind.i64.wrap ((q : Int) + 1) = (q : Int) + 1 := IntWalk.i64_in _ (by omega)
      have hf := (HF.out.later HBw.out).at hlt
      obtain ⟨most, hmo⟩ : ∃ x, x = decide (q = 1) := ⟨_, rfl⟩
      rw [← hmo] at hf
      clear hmo
      have HSM := Lib.hid (Rw.reach_sum HOK.out HRD.out hab hbn most)
      have HRF := Lib.hid (Rw.reach_fits HOK.out HRD.out (show a ≤ r.n by omega) most)
      have HRB := Lib.hid (Rw.reach_bd HOK.out HRD.out (show a ≤ r.n by omega) most)
      have HWS := Lib.hid (fun l => Rw.why_shows (l := l) HOK.out HRD.out hab hbn most)
      obtain ⟨hp0, hp1⟩ := HP.out.later HBw.out
      obtain ⟨hw0, hw1⟩ := HW.out.later HBw.out
      cases most with
      | true =>
        have hzz : ((r.span a b).b != (r.span a b).b) = false := by simp
        obtain ⟨bA, dA, vA, bc, dc, vc, ⟨c0, c1, c2⟩, hr⟩ := HR.out.later HBw.out
        go_wp2_with fail
        refine (Reach_any r a b true HA0.out bA dA vA bc dc vc _ hr).mono ?_
        rintro e w1 ⟨yA, yc, rfl, hoy, hb1⟩
        obtain ⟨yA', yc', he, hoy, hyc⟩ := ownInt_of hoy
        injection he with he1 he2 he3
        subst he1 he3
        have HY := Lib.hid hoy.row
        have HB1 := Lib.hid (HBw.out.trans (hb1.mono hsw))
        have hs1 := HB1.out.size
        clear hoy hb1 he2 c0 c1 c2 hr hp0 hp1 hw0 hw1 hf
        obtain ⟨hp0, hp1⟩ := HP.out.later HB1.out
        obtain ⟨hw0, hw1⟩ := HW.out.later HB1.out
        obtain ⟨bA, dA, vA, bc, dc, vc, ⟨c0, c1, c2⟩, hr⟩ := HR.out.later HB1.out
        go_wp2_with fail
        refine (Fits_any r HOK.out (byPre (r.reachY a true)) HRB.out yA yc hyc bA dA vA bc dc vc _ hr HY.out).mono ?_
        rintro e w2 ⟨rfl, hb2⟩
        rw [Rw.fitsB_iff.2 HRF.out]
        have HB2 := Lib.hid (HB1.out.trans (hb2.mono hs1))
        have HY2 := Lib.hid (HY.out.later hb2)
        have hs2 := HB2.out.size
        clear hb2 c0 c1 c2 hr hp0 hp1 hw0 hw1 HB1 HY
        obtain ⟨hp0, hp1⟩ := HP.out.later HB2.out
        obtain ⟨hw0, hw1⟩ := HW.out.later HB2.out
        obtain ⟨bA, dA, vA, bc, dc, vc, ⟨c0, c1, c2⟩, hr⟩ := HR.out.later HB2.out
        go_wp2_with fail
        refine (Why_any r (a : Int) (b : Int) true bA dA vA bc dc vc _ hr).mono ?_
        rintro e w3 (⟨-, l, kA, kc, rfl, how, hch, hsum, hlen, hb3⟩ | ⟨h0, rfl, hb3⟩)
        · obtain ⟨kA', kc', he, hof, hkc⟩ := ownFc_of how rfl
          injection he with he1 he2 he3
          subst he1 he3
          have HK := Lib.hid hof.row
          have HSH := Lib.hid (HWS.out l hch hsum hlen)
          have HB3 := Lib.hid (HB2.out.trans (hb3.mono hs2))
          have HY3 := Lib.hid (HY2.out.later hb3)
          have hs3 := HB3.out.size
          clear how hch hsum hof he2 hb3 c0 c1 c2 hr hp0 hp1 hw0 hw1 HB2 HY2
          obtain ⟨hp0, hp1⟩ := HP.out.later HB3.out
          obtain ⟨hw0, hw1⟩ := HW.out.later HB3.out
          obtain ⟨bA, dA, vA, bc, dc, vc, ⟨c0, c1, c2⟩, hr⟩ := HR.out.later HB3.out
          go_wp2_with fail
          refine (Shows_any r (a : Int) (b : Int) true kA l.length kc (fun k => l.getD k fc0) bA dA vA bc dc vc _ hr HK.out (by omega)).mono ?_
          rintro e w4 ⟨rfl, hb4⟩
          rw [HSH.out]
          have HB4 := Lib.hid (HB3.out.trans (hb4.mono hs3))
          have HY4 := Lib.hid (HY3.out.later hb4)
          have hs4 := HB4.out.size
          clear hb4 c0 c1 c2 hr hp0 hp1 hw0 hw1 HB3 HY3
          obtain ⟨hp0, hp1⟩ := HP.out.later HB4.out
          go_wp2_with fail
          refine (total_any r.n a b hn6 hab hbn (byPre (r.reachY a true)) HRB.out yA yc _ HY4.out).mono ?_
          rintro e w5 ⟨rfl, hb5⟩
          rw [HSM.out]
          have HB5 := Lib.hid (HB4.out.trans (hb5.mono hs4))
          clear hb5 hp0 hp1 HB4 HY4
          go_wp2_with fail
          go_roundw
          case rel => exact ⟨q + 1, by omega, by go_num, HB5⟩
          case measure => simp [intOf]; omega
        · exact absurd HA0.out h0
      | false =>
        have hzz : ((r.span a b).a != (r.span a b).a) = false := by simp
        obtain ⟨bA, dA, vA, bc, dc, vc, ⟨c0, c1, c2⟩, hr⟩ := HR.out.later HBw.out
        go_wp2_with fail
        refine (Reach_any r a b false HA0.out bA dA vA bc dc vc _ hr).mono ?_
        rintro e w1 ⟨yA, yc, rfl, hoy, hb1⟩
        obtain ⟨yA', yc', he, hoy, hyc⟩ := ownInt_of hoy
        injection he with he1 he2 he3
        subst he1 he3
        have HY := Lib.hid hoy.row
        have HB1 := Lib.hid (HBw.out.trans (hb1.mono hsw))
        have hs1 := HB1.out.size
        clear hoy hb1 he2 c0 c1 c2 hr hp0 hp1 hw0 hw1 hf
        obtain ⟨hp0, hp1⟩ := HP.out.later HB1.out
        obtain ⟨hw0, hw1⟩ := HW.out.later HB1.out
        obtain ⟨bA, dA, vA, bc, dc, vc, ⟨c0, c1, c2⟩, hr⟩ := HR.out.later HB1.out
        go_wp2_with fail
        refine (Fits_any r HOK.out (byPre (r.reachY a false)) HRB.out yA yc hyc bA dA vA bc dc vc _ hr HY.out).mono ?_
        rintro e w2 ⟨rfl, hb2⟩
        rw [Rw.fitsB_iff.2 HRF.out]
        have HB2 := Lib.hid (HB1.out.trans (hb2.mono hs1))
        have HY2 := Lib.hid (HY.out.later hb2)
        have hs2 := HB2.out.size
        clear hb2 c0 c1 c2 hr hp0 hp1 hw0 hw1 HB1 HY
        obtain ⟨hp0, hp1⟩ := HP.out.later HB2.out
        obtain ⟨hw0, hw1⟩ := HW.out.later HB2.out
        obtain ⟨bA, dA, vA, bc, dc, vc, ⟨c0, c1, c2⟩, hr⟩ := HR.out.later HB2.out
        go_wp2_with fail
        refine (Why_any r (a : Int) (b : Int) false bA dA vA bc dc vc _ hr).mono ?_
        rintro e w3 (⟨-, l, kA, kc, rfl, how, hch, hsum, hlen, hb3⟩ | ⟨h0, rfl, hb3⟩)
        · obtain ⟨kA', kc', he, hof, hkc⟩ := ownFc_of how rfl
          injection he with he1 he2 he3
          subst he1 he3
          have HK := Lib.hid hof.row
          have HSH := Lib.hid (HWS.out l hch hsum hlen)
          have HB3 := Lib.hid (HB2.out.trans (hb3.mono hs2))
          have HY3 := Lib.hid (HY2.out.later hb3)
          have hs3 := HB3.out.size
          clear how hch hsum hof he2 hb3 c0 c1 c2 hr hp0 hp1 hw0 hw1 HB2 HY2
          obtain ⟨hp0, hp1⟩ := HP.out.later HB3.out
          obtain ⟨hw0, hw1⟩ := HW.out.later HB3.out
          obtain ⟨bA, dA, vA, bc, dc, vc, ⟨c0, c1, c2⟩, hr⟩ := HR.out.later HB3.out
          go_wp2_with fail
          refine (Shows_any r (a : Int) (b : Int) false kA l.length kc (fun k => l.getD k fc0) bA dA vA bc dc vc _ hr HK.out (by omega)).mono ?_
          rintro e w4 ⟨rfl, hb4⟩
          rw [HSH.out]
          have HB4 := Lib.hid (HB3.out.trans (hb4.mono hs3))
          have HY4 := Lib.hid (HY3.out.later hb4)
          have hs4 := HB4.out.size
          clear hb4 c0 c1 c2 hr hp0 hp1 hw0 hw1 HB3 HY3
          obtain ⟨hp0, hp1⟩ := HP.out.later HB4.out
          go_wp2_with fail
          refine (total_any r.n a b hn6 hab hbn (byPre (r.reachY a false)) HRB.out yA yc _ HY4.out).mono ?_
          rintro e w5 ⟨rfl, hb5⟩
          rw [HSM.out]
          have HB5 := Lib.hid (HB4.out.trans (hb5.mono hs4))
          clear hb5 hp0 hp1 HB4 HY4
          go_wp2_with fail
          go_roundw
          case rel => exact ⟨q + 1, by omega, by go_num, HB5⟩
          case measure => simp [intOf]; omega
        · exact absurd HA0.out h0
    · obtain rfl : q = 2 := by omega
      have hge : ¬ ((2 : Nat) : Int) < 2 := by omega
      go_wp2_with fail
      all_goals exact HBw
end Go.Proofs.YtnnikeolgknfoaaGreat

set_option linter.unusedSimpArgs false
set_option linter.unusedVariables false
namespace Go.Proofs.YtnnikeolgknfoaaGreat
open Go.RowKit Go.Shelf

theorem Rw.sum_ok {r : Rw} {a b : Nat} (h : r.askErr a b = 0) : r.sumS a b = r.span a b := by unfold Rw.sumS; rw [if_pos h]; rfl
set_option maxRecDepth 100000 in
set_option maxHeartbeats 16000000 in
theorem told_loop4 (r : Rw) (HOK : Hid r.ok) (HRD : Hid (r.round = [])) (rx : Nat) (lA : Option Addr) (n : Nat) (hn7 : n ≤ 7) (lc : Nat) (pA : Option Addr) (m : Nat) (P : Nat → Nat × Nat) (hm36 : m ≤ 36) (HPP : Hid (∀ q, q < m → (P q).1 ≤ (P q).2 ∧ (P q).2 < r.n)) {u0 u1 u2 u3 u4 u6 u7 u8 u9 u10 u11 u12 u13 u15 u16 u17 u18 u19 u20 u21 u22 u23 u24 u25 u26 u27 u28 u29 u30 u31 u32 u33 u34 u35 u36 u37 u38 u39 u40 u41 u42 u43 u44 u45 u46 u47 u48 u49 u50 u51 u52 u53 u54 u55 u56 u57 u58 u59 u60 u61 u62 u63 u64 u65 u66 u67 u68 u69 u70 u71 u72 u73 u74 u75 u76 u77 u78 u79 u80 u81 u82 u83 u84 u85 u86 u87 u88 u89 u90 u91 u92 u93 u94 u95 u96 u97 u98 u99 u100 u101 u102 u103 u104 u105 u106 u107 u108 u109 u110 u111 u112 u113 u114 u115 u119 u120 u121 u122 u123 u124 u125 u126 u127 u128 u129 u130 u131 u132 u133 u134 u135 u136 u137 u138 u139 u140 u141 u142 u143 u144 u145 u146 u147 u148 u149 u150 u151 u152 u153 u154 u155 u156 u157 u158 u159 u160 u161 u162 u163 u164 u165 u166 u167 u168 u169 u170 u171 u172 u173 u174 u175 u176 u177 u178 u179 u180 u181 u182 u183 u184 u185 u186 u187 u188 u189 u190 u191 u192 u193 u194 u195 u196 u197 u198 u199 u200 u201 u202 u203 u204 u205 u206 u207 u208 u209 u210 u211 u212 u213 u214 u215 u216 u217 u218 u219 u220 u221 u222 u223 u224 u225 u226 u227 u228 u229 u230 u231 u232 : Value} (pc : Nat) (w : World) (HPR : Hid (PrRow w w.heap.size pA m P)) (HR : Hid (RowIx w rx r)) (HL : Hid (LsRow w r lA n))
    (Q : Exit → Act → World → Prop) (hK : ∀ {x4 x19 x20 x21 x22 x23 x24 x25 x26 x27 x28 x29 x30 x31 x32 x33 x34 x118 x119 x120 x121 x122 x123 x124 x125 x126 x127 x128 x129 x130 x131 x132 x133 x134 x135 x136 x137 x138 x139 x140 x141 x142 x143 x144 x145 x146 x147 x148 x149 x150 x151 x152 x153 x154 x155 x156 x157 x158 x159 x160 x161 x162 x163 x164 x165 x166 x167 x168 x169 x170 x171 x172 x173 x174 x175 x176 x177 x178 x179 x180 x181 x182 x183 x184 x185 x186 x187 x188 x189 x190 x191 x192 x193 x194 x195 x196 x197 x198 x199 x200 x201 x202 x203 x204 x205 x206 x207 x208 x209 x210 x211 x212 x213 x214 x215 x216 x217 x218 x219 x220 x221 x222 x223 x224 x225 x226 x227 x228 x229 x230 x231 : Value} (w' : World), Hid (Below w.heap.size w w') → Q .normal ⟨(List.toArray (u0 :: u1 :: u2 :: u3 :: x4 :: (.pointer (some ⟨rx, 0, none⟩)) :: u6 :: u7 :: u8 :: u9 :: u10 :: u11 :: u12 :: u13 :: (.slice lA n lc) :: u15 :: u16 :: u17 :: u18 :: x19 :: x20 :: x21 :: x22 :: x23 :: x24 :: x25 :: x26 :: x27 :: x28 :: x29 :: x30 :: x31 :: x32 :: x33 :: x34 :: u35 :: u36 :: u37 :: u38 :: u39 :: u40 :: u41 :: u42 :: u43 :: u44 :: u45 :: u46 :: u47 :: u48 :: u49 :: u50 :: u51 :: u52 :: u53 :: u54 :: u55 :: u56 :: u57 :: u58 :: u59 :: u60 :: u61 :: u62 :: u63 :: u64 :: u65 :: u66 :: u67 :: u68 :: u69 :: u70 :: u71 :: u72 :: u73 :: u74 :: u75 :: u76 :: u77 :: u78 :: u79 :: u80 :: u81 :: u82 :: u83 :: u84 :: u85 :: u86 :: u87 :: u88 :: u89 :: u90 :: u91 :: u92 :: u93 :: u94 :: u95 :: u96 :: u97 :: u98 :: u99 :: u100 :: u101 :: u102 :: u103 :: u104 :: u105 :: u106 :: u107 :: u108 :: u109 :: u110 :: u111 :: u112 :: u113 :: u114 :: u115 :: (.slice pA m pc) :: (.int .i64 (m : Int)) :: x118 :: x119 :: x120 :: x121 :: x122 :: x123 :: x124 :: x125 :: x126 :: x127 :: x128 :: x129 :: x130 :: x131 :: x132 :: x133 :: x134 :: x135 :: x136 :: x137 :: x138 :: x139 :: x140 :: x141 :: x142 :: x143 :: x144 :: x145 :: x146 :: x147 :: x148 :: x149 :: x150 :: x151 :: x152 :: x153 :: x154 :: x155 :: x156 :: x157 :: x158 :: x159 :: x160 :: x161 :: x162 :: x163 :: x164 :: x165 :: x166 :: x167 :: x168 :: x169 :: x170 :: x171 :: x172 :: x173 :: x174 :: x175 :: x176 :: x177 :: x178 :: x179 :: x180 :: x181 :: x182 :: x183 :: x184 :: x185 :: x186 :: x187 :: x188 :: x189 :: x190 :: x191 :: x192 :: x193 :: x194 :: x195 :: x196 :: x197 :: x198 :: x199 :: x200 :: x201 :: x202 :: x203 :: x204 :: x205 :: x206 :: x207 :: x208 :: x209 :: x210 :: x211 :: x212 :: x213 :: x214 :: x215 :: x216 :: x217 :: x218 :: x219 :: x220 :: x221 :: x222 :: x223 :: x224 :: x225 :: x226 :: x227 :: x228 :: x229 :: x230 :: x231 :: u232 :: [])), []⟩ w') :
    Code.wp Tryz.prog (blkIn Tryz.f10 4) Q ⟨(List.toArray (u0 :: u1 :: u2 :: u3 :: u4 :: (.pointer (some ⟨rx, 0, none⟩)) :: u6 :: u7 :: u8 :: u9 :: u10 :: u11 :: u12 :: u13 :: (.slice lA n lc) :: u15 :: u16 :: u17 :: u18 :: u19 :: u20 :: u21 :: u22 :: u23 :: u24 :: u25 :: u26 :: u27 :: u28 :: u29 :: u30 :: u31 :: u32 :: u33 :: u34 :: u35 :: u36 :: u37 :: u38 :: u39 :: u40 :: u41 :: u42 :: u43 :: u44 :: u45 :: u46 :: u47 :: u48 :: u49 :: u50 :: u51 :: u52 :: u53 :: u54 :: u55 :: u56 :: u57 :: u58 :: u59 :: u60 :: u61 :: u62 :: u63 :: u64 :: u65 :: u66 :: u67 :: u68 :: u69 :: u70 :: u71 :: u72 :: u73 :: u74 :: u75 :: u76 :: u77 :: u78 :: u79 :: u80 :: u81 :: u82 :: u83 :: u84 :: u85 :: u86 :: u87 :: u88 :: u89 :: u90 :: u91 :: u92 :: u93 :: u94 :: u95 :: u96 :: u97 :: u98 :: u99 :: u100 :: u101 :: u102 :: u103 :: u104 :: u105 :: u106 :: u107 :: u108 :: u109 :: u110 :: u111 :: u112 :: u113 :: u114 :: u115 :: (.slice pA m pc) :: (.int .i64 (m : Int)) :: (.int .i64 0) :: u119 :: u120 :: u121 :: u122 :: u123 :: u124 :: u125 :: u126 :: u127 :: u128 :: u129 :: u130 :: u131 :: u132 :: u133 :: u134 :: u135 :: u136 :: u137 :: u138 :: u139 :: u140 :: u141 :: u142 :: u143 :: u144 :: u145 :: u146 :: u147 :: u148 :: u149 :: u150 :: u151 :: u152 :: u153 :: u154 :: u155 :: u156 :: u157 :: u158 :: u159 :: u160 :: u161 :: u162 :: u163 :: u164 :: u165 :: u166 :: u167 :: u168 :: u169 :: u170 :: u171 :: u172 :: u173 :: u174 :: u175 :: u176 :: u177 :: u178 :: u179 :: u180 :: u181 :: u182 :: u183 :: u184 :: u185 :: u186 :: u187 :: u188 :: u189 :: u190 :: u191 :: u192 :: u193 :: u194 :: u195 :: u196 :: u197 :: u198 :: u199 :: u200 :: u201 :: u202 :: u203 :: u204 :: u205 :: u206 :: u207 :: u208 :: u209 :: u210 :: u211 :: u212 :: u213 :: u214 :: u215 :: u216 :: u217 :: u218 :: u219 :: u220 :: u221 :: u222 :: u223 :: u224 :: u225 :: u226 :: u227 :: u228 :: u229 :: u230 :: u231 :: u232 :: [])), []⟩ w := by
  (conv => arg 2; whnf)
  have hn6 := HOK.out.n6
  go_wp2_with fail
  go_loopw [118] (fun i wr => ∃ q : Nat, q ≤ m ∧ i = .int .i64 q ∧ Hid (Below w.heap.size w wr)) (fun i _ => m - (intOf i).toNat)
  case atStart => exact ⟨0, Nat.zero_le _, rfl, Lib.hid (Below.refl _ _)⟩
  case round =>
    obtain ⟨q, hq, rfl, HBw⟩ := hrel
    obtain ⟨wo, rfl⟩ : ∃ wo, wo = wr := ⟨_, rfl⟩
    have hsw := HBw.out.size
    by_cases hlt : q < m
    · have hq0 : (0 : Int) ≤ (q : Int) := by omega
      have hqn : (q : Int) < (m : Int) := by omega
      have eq1 : IntKind.i64.wrap ((q : Int) + 1) = (q : Int) + 1 := IntWalk.i64_in _ (by omega)
      obtain ⟨pb, hpA, hpl, p0, p1⟩ := (HPR.out.below HBw.out) q hlt
      obtain ⟨hab, hbn⟩ := HPP.out q hlt
      obtain ⟨⟨a, b⟩, hpq⟩ : ∃ x, x = P q := ⟨_, rfl⟩
      rw [← hpq] at p0 p1 hab hbn
      dsimp only at p0 p1 hab hbn
      subst hpA
      clear hpq
      have HA0 := Lib.hid (Rw.ask_zero HOK.out HRD.out hab hbn)
      go_upto_region 25 with fail
      refine wp_world (fun w' => N2c w' wo.heap.size a b ∧ Below wo.heap.size wo w' ∧ wo.heap.size + 1 ≤ w'.heap.size) ⟨⟨(by (repeat' refine And.intro ?_ ?_) <;> (repeat (first | with_reducible assumption | (simp; done) | (with_reducible first | refine Kd ?_ | refine Kn ?_ | refine Kb (by assumption) ?_) | ((with_reducible first | refine Kw ?_ ?_ | refine Fw ?_) <;> first | with_reducible rfl | (simp; done)) | (with_reducible first | refine Ka _ ?_ | refine Ks _ (by first | exact Nat.le_refl _ | omega | (simp; done) | (simp; omega)) ?_ | refine Fd ?_ | refine Fn ?_ | refine Fb (by assumption) (by first | exact Nat.le_refl _ | omega | (simp; done) | (simp; omega)) ?_ | refine Fa _ (by first | exact Nat.le_refl _ | omega | (simp; done) | (simp; omega)) ?_ | refine Fs _ ?_)))), (by (repeat' refine And.intro ?_ ?_) <;> (repeat (first | with_reducible assumption | (simp; done) | (with_reducible first | refine Kd ?_ | refine Kn ?_ | refine Kb (by assumption) ?_) | ((with_reducible first | refine Kw ?_ ?_ | refine Fw ?_) <;> first | with_reducible rfl | (simp; done)) | (with_reducible first | refine Ka _ ?_ | refine Ks _ (by first | exact Nat.le_refl _ | omega | (simp; done) | (simp; omega)) ?_ | refine Fd ?_ | refine Fn ?_ | refine Fb (by assumption) (by first | exact Nat.le_refl _ | omega | (simp; done) | (simp; omega)) ?_ | refine Fa _ (by first | exact Nat.le_refl _ | omega | (simp; done) | (simp; omega)) ?_ | refine Fs _ ?_))))⟩, (by repeat (first | (with_reducible first | exact Below.refl _ _ | assumption | refine Below.drew ?_) | ((with_reducible first | refine Lc ?_ ?_ _ | refine Ls ?_ ?_ _ | refine Lv (by assumption) ?_ ?_); · first | exact Nat.le_refl _ | omega | (dsimp only; omega) | (simp only [World.size_alloc, World.size_drew, World.heap_drewN]; omega) | (simp; omega)))), by simp⟩ ?_
      rintro w9 ⟨hp9, hb9, hs9⟩
      have HP9 := Lib.hid hp9
      have HB9 := Lib.hid (HBw.out.trans (hb9.mono hsw))
      have hsw9 := HB9.out.size
      obtain ⟨pp, hpp⟩ : ∃ x, x = wo.heap.size := ⟨_, rfl⟩
      rw [← hpp] at HP9 hp9
      rw [← hpp]
      obtain ⟨hp0, hp1⟩ := hp9
      clear hb9 p0 p1 hs9 hpp
      obtain ⟨bA, dA, vA, bc, dc, vc, ⟨c0, c1, c2⟩, hr⟩ := HR.out.later HB9.out
      go_wp2_with fail
      refine (Sum_any r (a : Int) (b : Int) bA dA vA bc dc vc _ hr).mono ?_
      rintro e w11 ⟨rfl, hb11⟩
      rw [HA0.out, Rw.sum_ok HA0.out]
      obtain ⟨⟨z1, z2⟩, hz⟩ : ∃ x, x = r.span a b := ⟨_, rfl⟩
      rw [← hz]
      have HZ := Lib.hid hz
      dsimp only
      have HB11 := Lib.hid (HB9.out.trans (hb11.mono hsw9))
      have HP11 := Lib.hid (HP9.out.later hb11)
      have hsw11 := HB11.out.size
      clear hb11 c0 c1 c2 hr HB9 hp0 hp1 HP9 hsw9 hz
      go_upto_region 26 with fail
      refine wp_world (fun w' => N2c w' w11.heap.size z1 z2 ∧ Below w11.heap.size w11 w' ∧ w11.heap.size + 1 ≤ w'.heap.size) ⟨⟨(by (repeat' refine And.intro ?_ ?_) <;> (repeat (first | with_reducible assumption | (simp; done) | (with_reducible first | refine Kd ?_ | refine Kn ?_ | refine Kb (by assumption) ?_) | ((with_reducible first | refine Kw ?_ ?_ | refine Fw ?_) <;> first | with_reducible rfl | (simp; done)) | (with_reducible first | refine Ka _ ?_ | refine Ks _ (by first | exact Nat.le_refl _ | omega | (simp; done) | (simp; omega)) ?_ | refine Fd ?_ | refine Fn ?_ | refine Fb (by assumption) (by first | exact Nat.le_refl _ | omega | (simp; done) | (simp; omega)) ?_ | refine Fa _ (by first | exact Nat.le_refl _ | omega | (simp; done) | (simp; omega)) ?_ | refine Fs _ ?_)))), (by (repeat' refine And.intro ?_ ?_) <;> (repeat (first | with_reducible assumption | (simp; done) | (with_reducible first | refine Kd ?_ | refine Kn ?_ | refine Kb (by assumption) ?_) | ((with_reducible first | refine Kw ?_ ?_ | refine Fw ?_) <;> first | with_reducible rfl | (simp; done)) | (with_reducible first | refine Ka _ ?_ | refine Ks _ (by first | exact Nat.le_refl _ | omega | (simp; done) | (simp; omega)) ?_ | refine Fd ?_ | refine Fn ?_ | refine Fb (by assumption) (by first | exact Nat.le_refl _ | omega | (simp; done) | (simp; omega)) ?_ | refine Fa _ (by first | exact Nat.le_refl _ | omega | (simp; done) | (simp; omega)) ?_ | refine Fs _ ?_))))⟩, (by repeat (first | (with_reducible first | exact Below.refl _ _ | assumption | refine Below.drew ?_) | ((with_reducible first | refine Lc ?_ ?_ _ | refine Ls ?_ ?_ _ | refine Lv (by assumption) ?_ ?_); · first | exact Nat.le_refl _ | omega | (dsimp only; omega) | (simp only [World.size_alloc, World.size_drew, World.heap_drewN]; omega) | (simp; omega)))), by simp⟩ ?_
      rintro w12 ⟨hw12, hb12, hs12⟩
      have HW12 : Hid (N2c w12 w11.heap.size (r.span a b).a (r.span a b).b) := Lib.hid (by rw [← HZ.out]; exact hw12)
      have HB12 := Lib.hid (HB11.out.trans (hb12.mono hsw11))
      have HP12 := Lib.hid (HP11.out.later hb12)
      have HL12 := Lib.hid (HL.out.later HB12.out)
      have hsw12 := HB12.out.size
      obtain ⟨sx, hsx⟩ : ∃ x, x = w11.heap.size := ⟨_, rfl⟩
      rw [← hsx] at HW12
      rw [← hsx]
      clear hw12 hb12 hs12 hsx HB11 hsw11 HP11
      go_upto_block 6 with fail
      refine told_loop6 r HOK lA n hn7 a b hab hbn sx pp _ w12 HL12 HP12 HW12 _ ?_
      intro x4 x23 x135 x136 x137 x138 x139 x140 x141 x142 x143 x144 x145 x146 x147 x148 w13 hb13
      have HB13 := Lib.hid (HB12.out.trans (hb13.out.mono hsw12))
      have HP13 := Lib.hid (HP12.out.later hb13.out)
      have HW13 := Lib.hid (HW12.out.later hb13.out)
      have hsw13 := HB13.out.size
      clear hb13 HB12 HP12 HW12 HL12 hsw12
      go_upto_block 8 with fail
      refine wp_world (fun w' => Ft2 w' w13.heap.size ∧ Below w13.heap.size w13 w') ⟨⟨(by (repeat' refine And.intro ?_ ?_) <;> (repeat (first | with_reducible assumption | (simp; done) | (with_reducible first | refine Kd ?_ | refine Kn ?_ | refine Kb (by assumption) ?_) | ((with_reducible first | refine Kw ?_ ?_ | refine Fw ?_) <;> first | with_reducible rfl | (simp; done)) | (with_reducible first | refine Ka _ ?_ | refine Ks _ (by first | exact Nat.le_refl _ | omega | (simp; done) | (simp; omega)) ?_ | refine Fd ?_ | refine Fn ?_ | refine Fb (by assumption) (by first | exact Nat.le_refl _ | omega | (simp; done) | (simp; omega)) ?_ | refine Fa _ (by first | exact Nat.le_refl _ | omega | (simp; done) | (simp; omega)) ?_ | refine Fs _ ?_)))), (by (repeat' refine And.intro ?_ ?_) <;> (repeat (first | with_reducible assumption | (simp; done) | (with_reducible first | refine Kd ?_ | refine Kn ?_ | refine Kb (by assumption) ?_) | ((with_reducible first | refine Kw ?_ ?_ | refine Fw ?_) <;> first | with_reducible rfl | (simp; done)) | (with_reducible first | refine Ka _ ?_ | refine Ks _ (by first | exact Nat.le_refl _ | omega | (simp; done) | (simp; omega)) ?_ | refine Fd ?_ | refine Fn ?_ | refine Fb (by assumption) (by first | exact Nat.le_refl _ | omega | (simp; done) | (simp; omega)) ?_ | refine Fa _ (by first | exact Nat.le_refl _ | omega | (simp; done) | (simp; omega)) ?_ | refine Fs _ ?_))))⟩, (by repeat (first | (with_reducible first | exact Below.refl _ _ | assumption | refine Below.drew ?_) | ((with_reducible first | refine Lc ?_ ?_ _ | refine Ls ?_ ?_ _ | refine Lv (by assumption) ?_ ?_); · first | exact Nat.le_refl _ | omega | (dsimp only; omega) | (simp only [World.size_alloc, World.size_drew, World.heap_drewN]; omega) | (simp; omega))))⟩ ?_
      rintro w14 ⟨hf14, hb14⟩
      have HF14 := Lib.hid hf14
      have HB14 := Lib.hid (HB13.out.trans (hb14.mono hsw13))
      have HP14 := Lib.hid (HP13.out.later hb14)
      have HW14 := Lib.hid (HW13.out.later hb14)
      have HR14 := Lib.hid (HR.out.later HB14.out)
      have hsw14 := HB14.out.size
      clear hf14 hb14 HB13 HP13 HW13 hsw13
      refine told_loop8 r HOK HRD a b hab hbn rx sx pp _ w14 HR14 HP14 HW14 HF14 _ ?_
      intro y4 y25 y26 y27 y28 y29 y30 y31 y32 y33 y34 y151 y152 y153 y154 y155 y156 y157 y158 y159 y160 y161 y162 y163 y164 y165 y166 y167 y168 y169 y170 y171 y172 y173 y174 y175 y176 y177 y178 y179 y180 y181 y182 y183 y184 y185 y186 y187 y188 y189 y190 y191 y192 y193 y194 y195 y196 y197 y198 y199 y200 y201 y202 y203 y204 y205 y206 y207 y208 y209 y210 y211 y212 y213 y214 y215 y216 y217 y218 y219 y220 y221 y222 y223 y224 y225 y226 y227 y228 y229 y230 w15 hb15
      have HB15 := Lib.hid (HB14.out.trans (hb15.out.mono hsw14))
      clear hb15 HB14 HP14 HW14 HF14 HR14 hsw14
      go_wp2_with fail
      go_roundw
      case rel => exact ⟨q + 1, by omega, by go_num, HB15⟩
      case measure => simp [intOf]; omega
    · obtain rfl : q = m := by omega
      have hge : ¬ (q : Int) < (q : Int) := by omega
      go_wp2_with fail
      all_goals exact HBw
end Go.Proofs.YtnnikeolgknfoaaGreat

set_option linter.unusedSimpArgs false
set_option linter.unusedVariables false
namespace Go.Proofs.YtnnikeolgknfoaaGreat
open Go.RowKit Go.Shelf

/-- contents that are tried, at work -/
structure TpAt (W w : World) (B cb : Nat) (nA : Option Addr) (nn nc n tb : Nat) (X : Nat → Int) : Prop where
  t : ∀ k, k < n → w.cell? ⟨tb, k, none⟩ = some (.int .i64 (X k))
  fz : ∀ i, w.frozen? ⟨tb, i, none⟩ = false
  lt : W.heap.size ≤ tb ∧ tb < w.heap.size
  c : Chute w B cb nA nn nc
  g : W.grownBy w (some cb)
  s : cb < W.heap.size ∧ B ≤ W.heap.size
theorem TpAt.pull {W w w' : World} {B cb : Nat} {nA : Option Addr} {nn nc n tb : Nat} {X : Nat → Int} (h : TpAt W w B cb nA nn nc n tb X) (hg : w.grownBy w' (some cb)) (hc : Chute w' B cb nA nn nc) : TpAt W w' B cb nA nn nc n tb X := by
  have hl := h.lt
  have hs := h.s
  have hsz := hg.size
  have hk : w'.heap[tb]? = w.heap[tb]? := hg.block tb hl.2 (fun e => by injection e with e; omega)
  exact ⟨fun k hk' => cell_same hk (h.t k hk'), fun i => fro_same hk (h.fz i), ⟨hl.1, by omega⟩, hc, gb_trans h.g hg, hs⟩
theorem TpAt.later {W w w' : World} {B cb : Nat} {nA : Option Addr} {nn nc n tb : Nat} {X : Nat → Int} (h : TpAt W w B cb nA nn nc n tb X) (hb : Below w.heap.size w w') : TpAt W w' B cb nA nn nc n tb X :=
  h.pull (gb_of_below cb hb) (h.c.later hb)
def putX (X : Nat → Int) (j : Nat) (z : Int) : Nat → Int := fun k => if k = j then z else X k
theorem TpAt.put {W w : World} {B cb : Nat} {nA : Option Addr} {nn nc n tb : Nat} {X : Nat → Int} (h : TpAt W w B cb nA nn nc n tb X) {j : Nat} (hj : j < n) (z : Int) : TpAt W (w.setCell ⟨tb, j, none⟩ (.int .i64 z)) B cb nA nn nc n tb (putX X j z) := by
  have hl := h.lt
  have hs := h.s
  refine ⟨fun k hk => ?_, fun i => (World.frozen?_setCell _ _ _ _).trans (h.fz i), ⟨hl.1, by simp [World.setCell]; exact hl.2⟩, h.c.keep (fun i hi => set_heap _ (by dsimp only; omega)), gb_cell h.g hl.1 _, hs⟩
  unfold putX
  by_cases e : k = j
  · subst e
    rw [if_pos rfl]
    exact World.cell?_setCell_same _ _ _ (h.t k hk)
  · rw [if_neg e]
    exact (World.cell?_setCell_other _ _ _ _ (fun e' => e (by injection e' with _ e'; exact e'.symm))).trans (h.t k hk)

set_option maxRecDepth 100000 in
set_option maxHeartbeats 16000000 in
theorem told_loop2 (n : Nat) (hn1 : 1 ≤ n) (hn6 : n ≤ 6) (B cb : Nat) (nA : Option Addr) (nn nc : Nat) (hln : nn ≤ 9223372036854775807) (cnt : Nat) (hcnt : cnt ≤ 3) (tb : Nat) (X : Nat → Int) (HX : Hid (∀ k, k < n → -50000 ≤ X k ∧ X k ≤ 50000)) {u0 u1 u2 u3 u4 u5 u6 u8 u9 u10 u11 u12 u13 u14 u16 u17 u18 u19 u20 u21 u22 u23 u24 u25 u26 u27 u28 u29 u30 u31 u32 u33 u34 u35 u36 u37 u38 u39 u40 u41 u42 u43 u44 u45 u46 u47 u48 u49 u50 u51 u52 u53 u54 u55 u56 u57 u58 u59 u60 u61 u62 u63 u64 u65 u66 u67 u68 u69 u70 u71 u72 u73 u74 u75 u76 u77 u78 u79 u80 u81 u82 u83 u84 u85 u88 u89 u90 u91 u92 u93 u94 u95 u96 u97 u98 u99 u100 u101 u102 u103 u104 u105 u106 u107 u108 u109 u110 u111 u112 u113 u114 u115 u116 u117 u118 u119 u120 u121 u122 u123 u124 u125 u126 u127 u128 u129 u130 u131 u132 u133 u134 u135 u136 u137 u138 u139 u140 u141 u142 u143 u144 u145 u146 u147 u148 u149 u150 u151 u152 u153 u154 u155 u156 u157 u158 u159 u160 u161 u162 u163 u164 u165 u166 u167 u168 u169 u170 u171 u172 u173 u174 u175 u176 u177 u178 u179 u180 u181 u182 u183 u184 u185 u186 u187 u188 u189 u190 u191 u192 u193 u194 u195 u196 u197 u198 u199 u200 u201 u202 u203 u204 u205 u206 u207 u208 u209 u210 u211 u212 u213 u214 u215 u216 u217 u218 u219 u220 u221 u222 u223 u224 u225 u226 u227 u228 u229 u230 u231 u232 : Value} (tc : Nat) (htc : n ≤ tc) (W w : World) (HT : Hid (TpAt W w B cb nA nn nc n tb X))
    (Q : Exit → Act → World → Prop) (hK : ∀ {x87 x88 x89 x90 x91 x92 x93 x94 x95 x96 x97 x98 x99 x100 : Value} (Y : Nat → Int) (w' : World), Hid (TpAt W w' B cb nA nn nc n tb Y) → Hid (bdX n Y) → Q .normal ⟨(List.toArray (u0 :: u1 :: u2 :: u3 :: u4 :: u5 :: u6 :: (.pointer (some ⟨cb, 0, none⟩)) :: u8 :: u9 :: u10 :: u11 :: u12 :: u13 :: u14 :: (.slice (some ⟨tb, 0, none⟩) n tc) :: u16 :: u17 :: u18 :: u19 :: u20 :: u21 :: u22 :: u23 :: u24 :: u25 :: u26 :: u27 :: u28 :: u29 :: u30 :: u31 :: u32 :: u33 :: u34 :: u35 :: u36 :: u37 :: u38 :: u39 :: u40 :: u41 :: u42 :: u43 :: u44 :: u45 :: u46 :: u47 :: u48 :: u49 :: u50 :: u51 :: u52 :: u53 :: u54 :: u55 :: u56 :: u57 :: u58 :: u59 :: u60 :: u61 :: u62 :: u63 :: u64 :: u65 :: u66 :: u67 :: u68 :: u69 :: u70 :: u71 :: u72 :: u73 :: u74 :: u75 :: u76 :: u77 :: u78 :: u79 :: u80 :: u81 :: u82 :: u83 :: u84 :: u85 :: (.int .i64 (cnt : Int)) :: x87 :: x88 :: x89 :: x90 :: x91 :: x92 :: x93 :: x94 :: x95 :: x96 :: x97 :: x98 :: x99 :: x100 :: u101 :: u102 :: u103 :: u104 :: u105 :: u106 :: u107 :: u108 :: u109 :: u110 :: u111 :: u112 :: u113 :: u114 :: u115 :: u116 :: u117 :: u118 :: u119 :: u120 :: u121 :: u122 :: u123 :: u124 :: u125 :: u126 :: u127 :: u128 :: u129 :: u130 :: u131 :: u132 :: u133 :: u134 :: u135 :: u136 :: u137 :: u138 :: u139 :: u140 :: u141 :: u142 :: u143 :: u144 :: u145 :: u146 :: u147 :: u148 :: u149 :: u150 :: u151 :: u152 :: u153 :: u154 :: u155 :: u156 :: u157 :: u158 :: u159 :: u160 :: u161 :: u162 :: u163 :: u164 :: u165 :: u166 :: u167 :: u168 :: u169 :: u170 :: u171 :: u172 :: u173 :: u174 :: u175 :: u176 :: u177 :: u178 :: u179 :: u180 :: u181 :: u182 :: u183 :: u184 :: u185 :: u186 :: u187 :: u188 :: u189 :: u190 :: u191 :: u192 :: u193 :: u194 :: u195 :: u196 :: u197 :: u198 :: u199 :: u200 :: u201 :: u202 :: u203 :: u204 :: u205 :: u206 :: u207 :: u208 :: u209 :: u210 :: u211 :: u212 :: u213 :: u214 :: u215 :: u216 :: u217 :: u218 :: u219 :: u220 :: u221 :: u222 :: u223 :: u224 :: u225 :: u226 :: u227 :: u228 :: u229 :: u230 :: u231 :: u232 :: [])), []⟩ w') :
    Code.wp Tryz.prog (blkIn Tryz.f10 2) Q ⟨(List.toArray (u0 :: u1 :: u2 :: u3 :: u4 :: u5 :: u6 :: (.pointer (some ⟨cb, 0, none⟩)) :: u8 :: u9 :: u10 :: u11 :: u12 :: u13 :: u14 :: (.slice (some ⟨tb, 0, none⟩) n tc) :: u16 :: u17 :: u18 :: u19 :: u20 :: u21 :: u22 :: u23 :: u24 :: u25 :: u26 :: u27 :: u28 :: u29 :: u30 :: u31 :: u32 :: u33 :: u34 :: u35 :: u36 :: u37 :: u38 :: u39 :: u40 :: u41 :: u42 :: u43 :: u44 :: u45 :: u46 :: u47 :: u48 :: u49 :: u50 :: u51 :: u52 :: u53 :: u54 :: u55 :: u56 :: u57 :: u58 :: u59 :: u60 :: u61 :: u62 :: u63 :: u64 :: u65 :: u66 :: u67 :: u68 :: u69 :: u70 :: u71 :: u72 :: u73 :: u74 :: u75 :: u76 :: u77 :: u78 :: u79 :: u80 :: u81 :: u82 :: u83 :: u84 :: u85 :: (.int .i64 (cnt : Int)) :: (.int .i64 0) :: u88 :: u89 :: u90 :: u91 :: u92 :: u93 :: u94 :: u95 :: u96 :: u97 :: u98 :: u99 :: u100 :: u101 :: u102 :: u103 :: u104 :: u105 :: u106 :: u107 :: u108 :: u109 :: u110 :: u111 :: u112 :: u113 :: u114 :: u115 :: u116 :: u117 :: u118 :: u119 :: u120 :: u121 :: u122 :: u123 :: u124 :: u125 :: u126 :: u127 :: u128 :: u129 :: u130 :: u131 :: u132 :: u133 :: u134 :: u135 :: u136 :: u137 :: u138 :: u139 :: u140 :: u141 :: u142 :: u143 :: u144 :: u145 :: u146 :: u147 :: u148 :: u149 :: u150 :: u151 :: u152 :: u153 :: u154 :: u155 :: u156 :: u157 :: u158 :: u159 :: u160 :: u161 :: u162 :: u163 :: u164 :: u165 :: u166 :: u167 :: u168 :: u169 :: u170 :: u171 :: u172 :: u173 :: u174 :: u175 :: u176 :: u177 :: u178 :: u179 :: u180 :: u181 :: u182 :: u183 :: u184 :: u185 :: u186 :: u187 :: u188 :: u189 :: u190 :: u191 :: u192 :: u193 :: u194 :: u195 :: u196 :: u197 :: u198 :: u199 :: u200 :: u201 :: u202 :: u203 :: u204 :: u205 :: u206 :: u207 :: u208 :: u209 :: u210 :: u211 :: u212 :: u213 :: u214 :: u215 :: u216 :: u217 :: u218 :: u219 :: u220 :: u221 :: u222 :: u223 :: u224 :: u225 :: u226 :: u227 :: u228 :: u229 :: u230 :: u231 :: u232 :: [])), []⟩ w := by
  (conv => arg 2; whnf)
  go_wp2_with fail
  go_loopw [87] (fun i wr => ∃ (q : Nat) (Y : Nat → Int), q ≤ cnt ∧ i = .int .i64 q ∧ Hid (TpAt W wr B cb nA nn nc n tb Y) ∧ Hid (∀ k, k < n → -50000 - 3 * (q : Int) ≤ Y k ∧ Y k ≤ 50000 + 3 * (q : Int))) (fun i _ => cnt - (intOf i).toNat)
  case atStart => exact ⟨0, X, Nat.zero_le _, rfl, HT, Lib.hid (fun k hk => by have := HX.out k hk; omega)⟩
  case round =>
    clear HT HX
    obtain ⟨q, Y, hq, rfl, HT, HY⟩ := hrel
    obtain ⟨wo, rfl⟩ : ∃ wo, wo = wr := ⟨_, rfl⟩
    by_cases hlt : q < cnt
    · have hq0 : (0 : Int) ≤ (q : Int) := by omega
      have hqn : (q : Int) < (cnt : Int) := by omega
      have eq1 : IntKind.i64.wrap ((q : Int) + 1) = (q : Int) + 1 := IntWalk.i64_in _ (by omega)
      go_upto_region 14 with fail
      have h0 := HT.out.t 0 (by omega)
      refine wp_region_noPanic ?_
      go_region_with (first | (have mk := H5; go_at_call 62; refine (between_any B cb nA nn nc (-3) 3 (by omega) (by omega) (by omega) hln _ (H5.out.c.later (by repeat (first | (with_reducible first | exact Below.refl _ _ | assumption | refine Below.drew ?_) | ((with_reducible first | refine Lc ?_ ?_ _ | refine Ls ?_ ?_ _ | refine Lv (by assumption) ?_ ?_); · first | exact Nat.le_refl _ | omega | (dsimp only; omega) | (simp only [World.size_alloc, World.size_drew, World.heap_drewN]; omega) | (simp; omega)))))).mono ?_; rintro e w6 ⟨p, rfl, hp0, hp1, hg6, hc6⟩; have H6 := Lib.hid ((H5.out.later (show Below w5.heap.size w5 _ from (by repeat (first | (with_reducible first | exact Below.refl _ _ | assumption | refine Below.drew ?_) | ((with_reducible first | refine Lc ?_ ?_ _ | refine Ls ?_ ?_ _ | refine Lv (by assumption) ?_ ?_); · first | exact Nat.le_refl _ | omega | (dsimp only; omega) | (simp only [World.size_alloc, World.size_drew, World.heap_drewN]; omega) | (simp; omega)))))).pull hg6 hc6); have c6 := H6.out.t j hjn; have f6 := H6.out.fz j; have e6 : IntKind.i64.wrap (Y j + p) = Y j + p := (IntWalk.i64_in _ (by omega))) | (go_at_call 61; refine (pull_any B cb nA nn nc (n : Int) (by omega) hln _ (HT.out.c.later (by repeat (first | (with_reducible first | exact Below.refl _ _ | assumption | refine Below.drew ?_) | ((with_reducible first | refine Lc ?_ ?_ _ | refine Ls ?_ ?_ _ | refine Lv (by assumption) ?_ ?_); · first | exact Nat.le_refl _ | omega | (dsimp only; omega) | (simp only [World.size_alloc, World.size_drew, World.heap_drewN]; omega) | (simp; omega)))))).mono ?_; rintro e w5 ⟨j, rfl, hj0, hj1, hg5, hc5⟩; obtain ⟨j, rfl⟩ := Int.eq_ofNat_of_zero_le hj0; have hjn : j < n := (by omega); have hjm : (j : Int) < (n : Int) := (by omega); have hjz : (0 : Int) ≤ (j : Int) := (by omega); have H5 := Lib.hid ((HT.out.later (show Below wo.heap.size wo _ from (by repeat (first | (with_reducible first | exact Below.refl _ _ | assumption | refine Below.drew ?_) | ((with_reducible first | refine Lc ?_ ?_ _ | refine Ls ?_ ?_ _ | refine Lv (by assumption) ?_ ?_); · first | exact Nat.le_refl _ | omega | (dsimp only; omega) | (simp only [World.size_alloc, World.size_drew, World.heap_drewN]; omega) | (simp; omega)))))).pull hg5 hc5); have c5 := H5.out.t j hjn; have y5 := HY.out j hjn))
      all_goals
        refine NoPanic.normal ?_
        have H7 := Lib.hid (H6.out.put hjn (Y j + p))
        have HY7 : Hid (∀ k, k < n → -50000 - 3 * ((q + 1 : Nat) : Int) ≤ putX Y j (Y j + p) k ∧ putX Y j (Y j + p) k ≤ 50000 + 3 * ((q + 1 : Nat) : Int)) := Lib.hid (fun k hk => by
          have h1 := HY.out k hk
          have h2 := HY.out j hjn
          unfold putX
          split <;> omega)
        clear hg6 hc6 hg5 hc5 c6 c5 f6 e6 y5 H6 H5 h0
        go_wp2_with fail
        go_roundw
        case rel => exact ⟨q + 1, _, by omega, by go_num, H7, HY7⟩
        case measure => simp [intOf]; omega
    · obtain rfl : q = cnt := by omega
      have hge : ¬ (q : Int) < (q : Int) := by omega
      go_wp2_with fail
      all_goals exact hK _ _ HT (Lib.hid (fun k hk => by have := HY.out k hk; omega))
end Go.Proofs.YtnnikeolgknfoaaGreat

set_option linter.unusedSimpArgs false
set_option linter.unusedVariables false
namespace Go.Proofs.YtnnikeolgknfoaaGreat
open Go.RowKit Go.Shelf

theorem infoRow : (Tryz.prog.info? 31).map (fun i => (i.zero, i.size, i.bytes)) = some (some (.slice none 0 0), 1, 24) := by kernel_rfl
theorem rows_under : Tryz.prog.underlying 106 = some (.slice 31) := by kernel_rfl
/-- contents in a list -/
def ElOk (w : World) (S : Nat → Prop) (r : Rw) (x : Value) : Prop :=
  ∃ (xA : Option Addr) (xc : Nat) (X : Nat → Int), x = .slice xA r.n xc ∧ r.n ≤ xc ∧ (∀ k, k < r.n → ∃ b o, xA = some ⟨b, o, none⟩ ∧ S b ∧ w.cell? ⟨b, o + k, none⟩ = some (.int .i64 (X k))) ∧ r.fits X ∧ bdX r.n X
theorem ElOk.keep {w w' : World} {S S' : Nat → Prop} {r : Rw} {x : Value} (h : ElOk w S r x) (hk : ∀ b, S b → b < w.heap.size → w'.heap[b]? = w.heap[b]? ∧ S' b) : ElOk w' S' r x := by
  obtain ⟨xA, xc, X, h1, h2, h3, h4⟩ := h
  refine ⟨xA, xc, X, h1, h2, fun k hk' => ?_, h4⟩
  obtain ⟨b, o, hA, hS, hc⟩ := h3 k hk'
  have h := hk b hS (World.block_lt_of_cell? w _ hc)
  exact ⟨b, o, hA, h.2, cell_same h.1 hc⟩
structure TlAt (w0 w : World) (B cb : Nat) (nA : Option Addr) (nn nc : Nat) (r : Rw) (v : Value) (m : Nat) (xs : List Value) : Prop where
  o : w.ownsRow w0.heap.size 31 1 v m xs
  e : ∀ x, x ∈ xs → ElOk w (fun b => b ≠ cb ∧ v.ownBlock ≠ some b) r x
  c : Chute w B cb nA nn nc
  g : w0.grownBy w (some cb)
  s : cb < w0.heap.size ∧ B ≤ w0.heap.size
theorem TlAt.keep {w0 w w' : World} {B cb : Nat} {nA : Option Addr} {nn nc : Nat} {r : Rw} {v : Value} {m : Nat} {xs : List Value} (h : TlAt w0 w B cb nA nn nc r v m xs) (hg : w.grownBy w' (some cb)) (hc : Chute w' B cb nA nn nc) : TlAt w0 w' B cb nA nn nc r v m xs := by
  have hs := h.s
  refine ⟨owns_sm h.o (fun g hg1 hg2 => hg.block g (h.o.lt g hg2).2 (fun e => by injection e with e; omega)), fun x hx => (h.e x hx).keep (fun b hb hl => ⟨hg.block b hl (fun e => hb.1 (by injection e)), hb⟩), hc, gb_trans h.g hg, hs⟩
theorem TlAt.later {w0 w w' : World} {B cb : Nat} {nA : Option Addr} {nn nc : Nat} {r : Rw} {v : Value} {m : Nat} {xs : List Value} (h : TlAt w0 w B cb nA nn nc r v m xs) (hb : Below w.heap.size w w') : TlAt w0 w' B cb nA nn nc r v m xs :=
  h.keep (gb_of_below cb hb) (h.c.later hb)
theorem TlAt.add {w0 w w6 : World} {B cb : Nat} {nA : Option Addr} {nn nc : Nat} {r : Rw} {v : Value} {m : Nat} {xs : List Value} (h : TlAt w0 w B cb nA nn nc r v m xs) {g cap : Nat} {x : Value} (hown : w6.ownsRow w0.heap.size 31 1 (.slice (some ⟨g, 0, none⟩) (m + 1) cap) (m + 1) (xs ++ [x])) (hgr : w.grownBy w6 v.ownBlock) (hat : v.ownBlock = some g ∨ g = w.heap.size) (hx : ElOk w (fun b => b ≠ cb ∧ v.ownBlock ≠ some b) r x) : TlAt w0 w6 B cb nA nn nc r (.slice (some ⟨g, 0, none⟩) (m + 1) cap) (m + 1) (xs ++ [x]) := by
  have hs := h.s
  have hz := h.g.size
  have hk : ∀ b, (b ≠ cb ∧ v.ownBlock ≠ some b) → b < w.heap.size → w6.heap[b]? = w.heap[b]? ∧ (b ≠ cb ∧ Value.ownBlock (.slice (some ⟨g, 0, none⟩) (m + 1) cap) ≠ some b) := fun b hb hl => by
    refine ⟨hgr.block b hl (fun e => hb.2 e.symm), hb.1, fun e => ?_⟩
    have e : g = b := by injection e
    subst e
    rcases hat with h | h
    · exact hb.2 h
    · omega
  have hlow : ∀ i, i < w0.heap.size → w6.heap[i]? = w.heap[i]? := fun i hi => hgr.block i (by omega) (fun e => by
    have := (h.o.lt i e.symm).1
    omega)
  refine ⟨hown, fun y hy => ?_, h.c.keep (fun i hi => hlow i (by omega)), ⟨hgr.os.trans h.g.os, hgr.tape.trans h.g.tape, hgr.output.trans h.g.output, Nat.le_trans h.g.size hgr.size, fun k hk hne => (hlow k hk).trans (h.g.block k hk hne)⟩, hs⟩
  rcases List.mem_append.1 hy with h1 | h1
  · exact (h.e y h1).keep hk
  · rw [List.mem_singleton.1 h1]
    exact hx.keep hk
/-- the list as it is read -/
theorem TlAt.row {w0 w : World} {B cb : Nat} {nA : Option Addr} {nn nc : Nat} {r : Rw} {v : Value} {m : Nat} {xs : List Value} (h : TlAt w0 w B cb nA nn nc r v m xs) : ∃ A c, v = .slice A m c ∧ LsRow w r A m := by
  rcases h.o with ⟨hl, ⟨rfl, rfl⟩ | ⟨g, cap, cur, rfl, hb, hg, hc1, hc2, hc3, hc4⟩⟩
  · exact ⟨none, 0, rfl, fun q hq => by omega⟩
  · refine ⟨_, _, rfl, fun q hq => ?_⟩
    have hlt : g < w.heap.size := (Array.getElem?_eq_some_iff.1 hg).1
    rw [Nat.mul_one] at hl
    have hx : xs[q]? = some (xs[q]'(by omega)) := List.getElem?_eq_getElem (by omega)
    obtain ⟨xA, xc, X, e1, e2, e3, e4, e5⟩ := h.e _ (List.getElem_mem (show q < xs.length by omega))
    have hcell : w.cell? ⟨g, q, none⟩ = some (xs[q]'(by omega)) := by
      refine cell_of_row (cs := cur.toList) (by simpa using hg) ?_
      rw [← hx, ← hc4, List.getElem?_take_of_lt (by omega)]
    exact ⟨g, xA, xc, X, rfl, hlt, by rw [hcell, e1], fun k hk => by
      obtain ⟨b, o, hA, _, hc⟩ := e3 k hk
      exact ⟨b, o, hA, World.block_lt_of_cell? w _ hc, hc⟩, e4, e5⟩
end Go.Proofs.YtnnikeolgknfoaaGreat
