/- The law BinParts: its loop over the places between. -/
import Derived.Test.YtnnikeolgknfoaaE4
import Derived.Test.YtnnikeolgknfoaaD3
import Derived.Test.YtnnikeolgknfoaaNq
set_option linter.unusedSimpArgs false
set_option linter.unusedVariables false
namespace Go.Proofs.Ytnnikeolgknfoaa
open Go.RowKit Go.Shelf

theorem Rw.sumS_ok {r : Rw} {a b : Nat} (h : r.askErr a b = 0) : r.sumS a b = r.span a b := by unfold Rw.sumS; rw [if_pos h]; rfl
theorem span_bd {r : Rw} (hr : r.ok) (h : r.round = []) {a b : Nat} (ha : a < r.n) (hb : b < r.n) : (-2100 ≤ (r.span a b).a ∧ (r.span a b).a ≤ 2100) ∧ -2100 ≤ (r.span a b).b ∧ (r.span a b).b ≤ 2100 := by
  have hf := Rw.fin_nil hr h
  have h1 := hf.d (b + 1) a (by omega) (by omega)
  have h2 := hf.d a (b + 1) (by omega) (by omega)
  show (-2100 ≤ -r.search.1.L (b + 1) a ∧ -r.search.1.L (b + 1) a ≤ 2100) ∧ -2100 ≤ r.search.1.L a (b + 1) ∧ r.search.1.L a (b + 1) ≤ 2100
  omega
theorem span_parts {r : Rw} (hr : r.ok) (h : r.round = []) {a b c : Nat} (hac : a ≤ c) (hcb : c < b) (hb : b < r.n) :
    (r.span a b).b ≤ (r.span a c).b + (r.span (c + 1) b).b ∧ (r.span a c).a + (r.span (c + 1) b).a ≤ (r.span a b).a ∧ (r.span a b).a - (r.span (c + 1) b).b ≤ (r.span a c).b ∧ (r.span a c).a ≤ (r.span a b).b - (r.span (c + 1) b).a ∧ (r.span a c).b ≤ (r.span a b).b - (r.span (c + 1) b).a ∧ (r.span a b).a - (r.span (c + 1) b).b ≤ (r.span a c).a := by
  have hp := (Rw.fin_nil hr h).parts (a := a) (b := b + 1) (c := c + 1) (by omega) (by omega) (by omega)
  show r.search.1.L a (b + 1) ≤ r.search.1.L a (c + 1) + r.search.1.L (c + 1) (b + 1) ∧ -r.search.1.L (c + 1) a + -r.search.1.L (b + 1) (c + 1) ≤ -r.search.1.L (b + 1) a ∧ -r.search.1.L (b + 1) a - r.search.1.L (c + 1) (b + 1) ≤ r.search.1.L a (c + 1) ∧ -r.search.1.L (c + 1) a ≤ r.search.1.L a (b + 1) - -r.search.1.L (b + 1) (c + 1) ∧ r.search.1.L a (c + 1) ≤ r.search.1.L a (b + 1) - -r.search.1.L (b + 1) (c + 1) ∧ -r.search.1.L (b + 1) a - r.search.1.L (c + 1) (b + 1) ≤ -r.search.1.L (c + 1) a
  omega

set_option maxRecDepth 100000 in
set_option maxHeartbeats 8000000 in
theorem parts_loop3 (r : Rw) (HOK : Hid r.ok) (HRD : Hid (r.round = [])) (a b : Nat) (hab : a ≤ b) (hb : b < r.n) (hn6 : r.n ≤ 6) (rx wb : Nat) (bA dA vA : Option Addr) (bc dc vc : Nat) (z1 z2 : Int) (HZ : Hid (z1 = (r.span a b).a ∧ z2 = (r.span a b).b)) {u0 u1 u2 u4 u5 u6 u7 u8 u9 u10 u11 u15 u16 u17 u18 u19 u20 u21 u23 u24 u25 u26 u27 u28 u29 u30 u31 u32 u33 u34 u35 u36 u37 u38 u39 u40 u41 u42 u43 u44 u45 u46 u47 u48 u49 u50 u51 u52 u53 u54 u55 u56 u57 u58 u59 u60 u61 u62 u63 u64 u65 u66 u67 u68 u69 u70 u71 u72 u73 u74 u75 u76 u77 u78 u79 u80 u81 u82 u83 u84 u85 u86 u87 u88 u89 u90 u91 u92 u93 u94 u95 u96 u97 u98 u99 u100 u101 u102 u103 u104 u105 u106 u107 u108 u109 u110 u111 u112 u113 u114 u115 u116 u117 u118 u119 u120 u121 u122 u123 u124 u125 u126 u127 u128 u129 u130 u131 u132 u133 u134 u135 u136 u137 u138 u139 u140 u141 u142 u143 u144 u145 u146 u147 u148 u149 u150 u151 u152 u153 u154 u155 u156 u157 u158 u159 u160 u161 u162 u163 u164 u165 u166 u167 u168 u169 u170 u171 u172 u173 u174 u175 u176 u177 u178 u179 u180 u181 u182 u183 u184 u185 u186 u187 u188 u189 u190 u191 u192 u193 u194 u195 u196 u197 u198 u199 u200 u201 u202 u203 u204 u205 u206 u207 u208 u209 u210 u211 u212 u213 u214 u215 u216 u217 u218 u219 u220 u221 u222 u223 u224 u225 u226 u227 u228 u229 u230 u231 u232 u233 u234 u235 u236 u237 u238 : Value} (w : World) (HR : Hid (RwRow w w.heap.size r bA bc dA dc vA vc)) (HX : Hid (RwAt w rx r bA bc dA dc vA vc)) (HW : Hid (N2c w wb z1 z2))
    (Q : Exit → Act → World → Prop) (hK : ∀ {x2 x22 x23 x24 x25 x26 x151 x152 x153 x154 x155 x156 x157 x158 x159 x160 x161 x162 x163 x164 x165 x166 x167 x168 x169 x170 x171 x172 x173 x174 x175 x176 x177 x178 x179 x180 x181 x182 x183 x184 x185 x186 x187 x188 x189 x190 x191 x192 x193 x194 x195 x196 x197 x198 x199 x200 x201 x202 x203 x204 x205 x206 x207 x208 x209 x210 x211 x212 x213 x214 x215 x216 x217 x218 x219 x220 x221 x222 x223 x224 x225 x226 x227 x228 x229 x230 x231 x232 x233 x234 x235 x236 : Value} (w' : World), Hid (Below w.heap.size w w') → Q .normal ⟨(List.toArray (u0 :: u1 :: x2 :: (.pointer (some ⟨rx, 0, none⟩)) :: u4 :: u5 :: u6 :: u7 :: u8 :: u9 :: u10 :: u11 :: (.int .i64 (a : Int)) :: (.int .i64 (b : Int)) :: (.pointer (some ⟨wb, 0, none⟩)) :: u15 :: u16 :: u17 :: u18 :: u19 :: u20 :: u21 :: x22 :: x23 :: x24 :: x25 :: x26 :: u27 :: u28 :: u29 :: u30 :: u31 :: u32 :: u33 :: u34 :: u35 :: u36 :: u37 :: u38 :: u39 :: u40 :: u41 :: u42 :: u43 :: u44 :: u45 :: u46 :: u47 :: u48 :: u49 :: u50 :: u51 :: u52 :: u53 :: u54 :: u55 :: u56 :: u57 :: u58 :: u59 :: u60 :: u61 :: u62 :: u63 :: u64 :: u65 :: u66 :: u67 :: u68 :: u69 :: u70 :: u71 :: u72 :: u73 :: u74 :: u75 :: u76 :: u77 :: u78 :: u79 :: u80 :: u81 :: u82 :: u83 :: u84 :: u85 :: u86 :: u87 :: u88 :: u89 :: u90 :: u91 :: u92 :: u93 :: u94 :: u95 :: u96 :: u97 :: u98 :: u99 :: u100 :: u101 :: u102 :: u103 :: u104 :: u105 :: u106 :: u107 :: u108 :: u109 :: u110 :: u111 :: u112 :: u113 :: u114 :: u115 :: u116 :: u117 :: u118 :: u119 :: u120 :: u121 :: u122 :: u123 :: u124 :: u125 :: u126 :: u127 :: u128 :: u129 :: u130 :: u131 :: u132 :: u133 :: u134 :: u135 :: u136 :: u137 :: u138 :: u139 :: u140 :: u141 :: u142 :: u143 :: u144 :: u145 :: u146 :: u147 :: u148 :: u149 :: u150 :: x151 :: x152 :: x153 :: x154 :: x155 :: x156 :: x157 :: x158 :: x159 :: x160 :: x161 :: x162 :: x163 :: x164 :: x165 :: x166 :: x167 :: x168 :: x169 :: x170 :: x171 :: x172 :: x173 :: x174 :: x175 :: x176 :: x177 :: x178 :: x179 :: x180 :: x181 :: x182 :: x183 :: x184 :: x185 :: x186 :: x187 :: x188 :: x189 :: x190 :: x191 :: x192 :: x193 :: x194 :: x195 :: x196 :: x197 :: x198 :: x199 :: x200 :: x201 :: x202 :: x203 :: x204 :: x205 :: x206 :: x207 :: x208 :: x209 :: x210 :: x211 :: x212 :: x213 :: x214 :: x215 :: x216 :: x217 :: x218 :: x219 :: x220 :: x221 :: x222 :: x223 :: x224 :: x225 :: x226 :: x227 :: x228 :: x229 :: x230 :: x231 :: x232 :: x233 :: x234 :: x235 :: x236 :: u237 :: u238 :: [])), []⟩ w') :
    Code.wp Try.prog (blkIn Try.f4 4) Q ⟨(List.toArray (u0 :: u1 :: u2 :: (.pointer (some ⟨rx, 0, none⟩)) :: u4 :: u5 :: u6 :: u7 :: u8 :: u9 :: u10 :: u11 :: (.int .i64 (a : Int)) :: (.int .i64 (b : Int)) :: (.pointer (some ⟨wb, 0, none⟩)) :: u15 :: u16 :: u17 :: u18 :: u19 :: u20 :: u21 :: (.int .i64 (a : Int)) :: u23 :: u24 :: u25 :: u26 :: u27 :: u28 :: u29 :: u30 :: u31 :: u32 :: u33 :: u34 :: u35 :: u36 :: u37 :: u38 :: u39 :: u40 :: u41 :: u42 :: u43 :: u44 :: u45 :: u46 :: u47 :: u48 :: u49 :: u50 :: u51 :: u52 :: u53 :: u54 :: u55 :: u56 :: u57 :: u58 :: u59 :: u60 :: u61 :: u62 :: u63 :: u64 :: u65 :: u66 :: u67 :: u68 :: u69 :: u70 :: u71 :: u72 :: u73 :: u74 :: u75 :: u76 :: u77 :: u78 :: u79 :: u80 :: u81 :: u82 :: u83 :: u84 :: u85 :: u86 :: u87 :: u88 :: u89 :: u90 :: u91 :: u92 :: u93 :: u94 :: u95 :: u96 :: u97 :: u98 :: u99 :: u100 :: u101 :: u102 :: u103 :: u104 :: u105 :: u106 :: u107 :: u108 :: u109 :: u110 :: u111 :: u112 :: u113 :: u114 :: u115 :: u116 :: u117 :: u118 :: u119 :: u120 :: u121 :: u122 :: u123 :: u124 :: u125 :: u126 :: u127 :: u128 :: u129 :: u130 :: u131 :: u132 :: u133 :: u134 :: u135 :: u136 :: u137 :: u138 :: u139 :: u140 :: u141 :: u142 :: u143 :: u144 :: u145 :: u146 :: u147 :: u148 :: u149 :: u150 :: u151 :: u152 :: u153 :: u154 :: u155 :: u156 :: u157 :: u158 :: u159 :: u160 :: u161 :: u162 :: u163 :: u164 :: u165 :: u166 :: u167 :: u168 :: u169 :: u170 :: u171 :: u172 :: u173 :: u174 :: u175 :: u176 :: u177 :: u178 :: u179 :: u180 :: u181 :: u182 :: u183 :: u184 :: u185 :: u186 :: u187 :: u188 :: u189 :: u190 :: u191 :: u192 :: u193 :: u194 :: u195 :: u196 :: u197 :: u198 :: u199 :: u200 :: u201 :: u202 :: u203 :: u204 :: u205 :: u206 :: u207 :: u208 :: u209 :: u210 :: u211 :: u212 :: u213 :: u214 :: u215 :: u216 :: u217 :: u218 :: u219 :: u220 :: u221 :: u222 :: u223 :: u224 :: u225 :: u226 :: u227 :: u228 :: u229 :: u230 :: u231 :: u232 :: u233 :: u234 :: u235 :: u236 :: u237 :: u238 :: [])), []⟩ w := by
  (conv => arg 2; whnf)
  have hzb := span_bd HOK.out HRD.out (a := a) (b := b) (by omega) hb
  rw [← HZ.out.1, ← HZ.out.2] at hzb
  go_wp2_with fail
  go_loopw [22] (fun v wr => ∃ c : Nat, a ≤ c ∧ c ≤ b ∧ v = .int .i64 c ∧ Hid (Below w.heap.size w wr)) (fun v _ => b - (intOf v).toNat)
  case atStart => exact ⟨a, Nat.le_refl _, hab, rfl, Lib.hid (Below.refl _ _)⟩
  case round =>
    obtain ⟨c, hac, hcb, rfl, HB⟩ := hrel
    obtain ⟨wo, rfl⟩ : ∃ wo, wo = wr := ⟨_, rfl⟩
    by_cases hlt : c < b
    · have hci : (c : Int) < (b : Int) := by omega
      have hc0 : (0 : Int) ≤ (c : Int) := by omega
      have ec : IntKind.i64.wrap ((c : Int) + 1) = (c : Int) + 1 := IntWalk.i64_in _ (by omega)
      have hsz := HB.out.size
      obtain ⟨c0, c1, c2⟩ := HX.out.later HB.out
      go_wp2_with fail
      refine (Sum_any r a c bA dA vA bc dc vc _ (HR.out.on HB.out)).mono ?_
      rintro e w3 ⟨rfl, hb3⟩
      have ha1 := Rw.ask_zero HOK.out HRD.out hac (show c < r.n by omega)
      rw [Rw.sumS_ok ha1, ha1]
      have HB3 := Lib.hid (HB.out.trans (hb3.mono hsz))
      have hsz3 := HB3.out.size
      have hxb := span_bd HOK.out HRD.out (a := a) (b := c) (by omega) (by omega)
      have hpp := span_parts HOK.out HRD.out hac hlt hb
      have hyb := span_bd HOK.out HRD.out (a := c + 1) (b := b) (by omega) hb
      obtain ⟨⟨x1, x2⟩, hx⟩ : ∃ x, x = r.span a c := ⟨_, rfl⟩
      obtain ⟨⟨y1, y2⟩, hy⟩ : ∃ x, x = r.span (c + 1) b := ⟨_, rfl⟩
      rw [← hx] at hxb hpp ⊢
      rw [← hy] at hyb hpp
      rw [← HZ.out.1, ← HZ.out.2] at hpp
      have HY := Lib.hid hy
      dsimp only at hxb hyb hpp ⊢
      clear hx hy ha1 hb3 c0 c1 c2
      go_upto_region 26 with fail
      refine wp_world (fun w' => N2c w' w3.heap.size x1 x2 ∧ Below w3.heap.size w3 w' ∧ w3.heap.size + 1 ≤ w'.heap.size) ⟨⟨(by (repeat' refine And.intro ?_ ?_) <;> (repeat (first | (with_reducible assumption) | (simp; done) | (with_reducible refine cell_drew_of ?_) | (with_reducible refine cell_drewN_of ?_) | (with_reducible refine cell_below_of (by with_reducible assumption) ?_) | ((with_reducible refine cell_new_of ?_ ?_) <;> (first | (with_reducible rfl) | (simp; done))) | ((with_reducible refine fro_new_of ?_) <;> (first | (with_reducible rfl) | (simp; done))) | (with_reducible refine cell_alloc_of _ ?_) | (with_reducible refine cell_set_of _ (by (first | exact Nat.le_refl _ | omega | (simp; done) | (simp; omega))) ?_) | (with_reducible refine fro_drew_of ?_) | (with_reducible refine fro_drewN_of ?_) | (with_reducible refine fro_below_of (by with_reducible assumption) (by (first | exact Nat.le_refl _ | omega | (simp; done) | (simp; omega))) ?_) | (with_reducible refine fro_alloc_of _ (by (first | exact Nat.le_refl _ | omega | (simp; done) | (simp; omega))) ?_) | (with_reducible refine fro_set_of _ ?_)))), (by (repeat' refine And.intro ?_ ?_) <;> (repeat (first | (with_reducible assumption) | (simp; done) | (with_reducible refine cell_drew_of ?_) | (with_reducible refine cell_drewN_of ?_) | (with_reducible refine cell_below_of (by with_reducible assumption) ?_) | ((with_reducible refine cell_new_of ?_ ?_) <;> (first | (with_reducible rfl) | (simp; done))) | ((with_reducible refine fro_new_of ?_) <;> (first | (with_reducible rfl) | (simp; done))) | (with_reducible refine cell_alloc_of _ ?_) | (with_reducible refine cell_set_of _ (by (first | exact Nat.le_refl _ | omega | (simp; done) | (simp; omega))) ?_) | (with_reducible refine fro_drew_of ?_) | (with_reducible refine fro_drewN_of ?_) | (with_reducible refine fro_below_of (by with_reducible assumption) (by (first | exact Nat.le_refl _ | omega | (simp; done) | (simp; omega))) ?_) | (with_reducible refine fro_alloc_of _ (by (first | exact Nat.le_refl _ | omega | (simp; done) | (simp; omega))) ?_) | (with_reducible refine fro_set_of _ ?_))))⟩, (by repeat (first | (with_reducible exact Below.refl _ _) | (with_reducible assumption) | (with_reducible refine Below.drew ?_) | ((with_reducible refine below_alloc ?_ ?_ _); (· (first | exact Nat.le_refl _ | omega | (dsimp only; omega) | (simp only [World.size_alloc, World.size_drew, World.heap_drewN]; omega) | (simp; omega)))) | ((with_reducible refine below_set ?_ ?_ _); (· (first | exact Nat.le_refl _ | omega | (dsimp only; omega) | (simp only [World.size_alloc, World.size_drew, World.heap_drewN]; omega) | (simp; omega)))) | ((with_reducible refine below_via (by with_reducible assumption) ?_ ?_); (· (first | exact Nat.le_refl _ | omega | (dsimp only; omega) | (simp only [World.size_alloc, World.size_drew, World.heap_drewN]; omega) | (simp; omega)))))), by simp⟩ ?_
      rintro w4 ⟨hx4, hb4, hs4⟩
      have HX4 := Lib.hid hx4
      have HB4 := Lib.hid (HB3.out.trans (hb4.mono hsz3))
      obtain ⟨c0, c1, c2⟩ := HX.out.later HB4.out
      clear hx4 hb4
      go_wp2_with fail
      refine (Sum_any r ((c : Int) + 1) b bA dA vA bc dc vc _ (HR.out.on HB4.out)).mono ?_
      rintro e w5 ⟨rfl, hb5⟩
      have ha2 := Rw.ask_zero HOK.out HRD.out (show c + 1 ≤ b by omega) hb
      rw [show ((c : Int) + 1) = ((c + 1 : Nat) : Int) from rfl, Rw.sumS_ok ha2, ha2, ← HY.out]
      have HB5 := Lib.hid (HB4.out.trans (hb5.mono (by have := HB4.out.size; omega)))
      have HX5 := Lib.hid (HX4.out.later hb5)
      have hs5 := hb5.size
      dsimp only
      clear hb5 ha2 c0 c1 c2 HX4
      go_upto_region 27 with fail
      refine wp_world (fun w' => N2c w' w5.heap.size y1 y2 ∧ Below w5.heap.size w5 w' ∧ w5.heap.size + 1 ≤ w'.heap.size) ⟨⟨(by (repeat' refine And.intro ?_ ?_) <;> (repeat (first | (with_reducible assumption) | (simp; done) | (with_reducible refine cell_drew_of ?_) | (with_reducible refine cell_drewN_of ?_) | (with_reducible refine cell_below_of (by with_reducible assumption) ?_) | ((with_reducible refine cell_new_of ?_ ?_) <;> (first | (with_reducible rfl) | (simp; done))) | ((with_reducible refine fro_new_of ?_) <;> (first | (with_reducible rfl) | (simp; done))) | (with_reducible refine cell_alloc_of _ ?_) | (with_reducible refine cell_set_of _ (by (first | exact Nat.le_refl _ | omega | (simp; done) | (simp; omega))) ?_) | (with_reducible refine fro_drew_of ?_) | (with_reducible refine fro_drewN_of ?_) | (with_reducible refine fro_below_of (by with_reducible assumption) (by (first | exact Nat.le_refl _ | omega | (simp; done) | (simp; omega))) ?_) | (with_reducible refine fro_alloc_of _ (by (first | exact Nat.le_refl _ | omega | (simp; done) | (simp; omega))) ?_) | (with_reducible refine fro_set_of _ ?_)))), (by (repeat' refine And.intro ?_ ?_) <;> (repeat (first | (with_reducible assumption) | (simp; done) | (with_reducible refine cell_drew_of ?_) | (with_reducible refine cell_drewN_of ?_) | (with_reducible refine cell_below_of (by with_reducible assumption) ?_) | ((with_reducible refine cell_new_of ?_ ?_) <;> (first | (with_reducible rfl) | (simp; done))) | ((with_reducible refine fro_new_of ?_) <;> (first | (with_reducible rfl) | (simp; done))) | (with_reducible refine cell_alloc_of _ ?_) | (with_reducible refine cell_set_of _ (by (first | exact Nat.le_refl _ | omega | (simp; done) | (simp; omega))) ?_) | (with_reducible refine fro_drew_of ?_) | (with_reducible refine fro_drewN_of ?_) | (with_reducible refine fro_below_of (by with_reducible assumption) (by (first | exact Nat.le_refl _ | omega | (simp; done) | (simp; omega))) ?_) | (with_reducible refine fro_alloc_of _ (by (first | exact Nat.le_refl _ | omega | (simp; done) | (simp; omega))) ?_) | (with_reducible refine fro_set_of _ ?_))))⟩, (by repeat (first | (with_reducible exact Below.refl _ _) | (with_reducible assumption) | (with_reducible refine Below.drew ?_) | ((with_reducible refine below_alloc ?_ ?_ _); (· (first | exact Nat.le_refl _ | omega | (dsimp only; omega) | (simp only [World.size_alloc, World.size_drew, World.heap_drewN]; omega) | (simp; omega)))) | ((with_reducible refine below_set ?_ ?_ _); (· (first | exact Nat.le_refl _ | omega | (dsimp only; omega) | (simp only [World.size_alloc, World.size_drew, World.heap_drewN]; omega) | (simp; omega)))) | ((with_reducible refine below_via (by with_reducible assumption) ?_ ?_); (· (first | exact Nat.le_refl _ | omega | (dsimp only; omega) | (simp only [World.size_alloc, World.size_drew, World.heap_drewN]; omega) | (simp; omega)))))), by simp⟩ ?_
      rintro w6 ⟨hy6, hb6, hs6⟩
      have hx6 := HX5.out.later hb6
      have HB6 := Lib.hid (HB5.out.trans (hb6.mono (by have := HB5.out.size; omega)))
      have hz6 := HW.out.later HB6.out
      have hs0 := HB6.out.size
      obtain ⟨q0, q1⟩ := hx6
      obtain ⟨q2, q3⟩ := hy6
      obtain ⟨q4, q5⟩ := hz6
      have e1 : IntKind.i64.wrap (x2 + y2) = x2 + y2 := IntWalk.i64_in _ (by omega)
      have e2 : IntKind.i64.wrap (x1 + y1) = x1 + y1 := IntWalk.i64_in _ (by omega)
      have e3 : IntKind.i64.wrap (z1 - y2) = z1 - y2 := IntWalk.i64_in _ (by omega)
      have e4 : IntKind.i64.wrap (z2 - y1) = z2 - y1 := IntWalk.i64_in _ (by omega)
      have h1 : ¬ x2 + y2 < z2 := by omega
      have h2 : ¬ z1 < x1 + y1 := by omega
      have h3 : ¬ x2 < z1 - y2 := by omega
      have h4 : ¬ z2 - y1 < x1 := by omega
      have h5 : ¬ z2 - y1 < x2 := by omega
      have h6 : ¬ x1 < z1 - y2 := by omega
      clear hb6 hpp hxb hyb HX5
      have HBQ := HB6
      go_wp2_with fail
      go_roundw
      case rel => exact ⟨c + 1, by omega, by omega, by go_num, HBQ⟩
      case measure => simp [intOf]; omega
    · obtain rfl : c = b := by omega
      go_wp2_with fail
      all_goals exact HB
end Go.Proofs.Ytnnikeolgknfoaa
