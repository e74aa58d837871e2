/- The law BinLater: its loop over what a bin gets. -/
import Derived.Test.YtnnikeolgknfoaaH1
import Derived.Test.YtnnikeolgknfoaaG3
import Derived.Test.YtnnikeolgknfoaaD3
import Derived.Test.YtnnikeolgknfoaaNq
set_option linter.unusedSimpArgs false
set_option linter.unusedVariables false
namespace Go.Proofs.Ytnnikeolgknfoaa
open Go.RowKit Go.Shelf

set_option maxRecDepth 100000 in
set_option maxHeartbeats 8000000 in
theorem later_loop2 (x : Bn) (X : Nat → Int) (cA : Option Addr) (cc : Nat) {u0 u1 u2 u3 u4 u5 u6 u7 u8 u9 u10 u11 u12 u13 u14 u15 u16 u17 u18 u19 u20 u21 u23 u24 u27 u28 u29 u30 u31 u32 u33 u34 u35 u36 u37 u38 u39 u40 u41 u42 u43 u44 u45 u46 u47 u48 u49 u50 u51 u52 u53 u54 u55 u56 u57 u58 u59 u60 u61 u62 u63 u64 u65 u66 u67 u68 u69 u70 u71 u72 u73 u74 u75 u76 u77 u78 u79 u80 u81 u82 u83 u84 u85 u86 u87 u88 u89 u90 u91 u92 u93 u94 u95 u96 u97 u98 u99 u100 u101 u102 u103 u104 u105 u106 u107 u108 u109 u110 u111 u112 u113 u114 u115 u116 u117 u118 u119 u120 u121 u122 u123 u124 u125 u126 u127 u128 u129 u130 u131 u132 u133 u134 u135 u136 u137 u138 u139 u140 u141 u142 u143 u144 u145 u146 u147 u148 u149 u150 u151 u152 u153 u154 u155 u156 u157 u158 u159 u160 u161 u162 u163 u164 u165 u166 u167 u168 u169 u170 u171 u172 u173 u174 u175 u176 u177 u178 u179 u180 u181 u182 u183 u184 u185 u186 u187 u188 u189 u190 u191 u192 u193 u194 u195 u196 u197 u198 u199 u200 u201 u202 u203 u204 u205 u206 u207 u208 u209 u212 u213 u214 u215 u216 u217 u218 u219 u220 u221 u222 u223 u224 u225 u226 u227 u228 u229 u230 u231 u232 u233 u234 u235 u236 u237 u238 u239 u240 u241 u242 u243 u244 u245 u246 u247 u248 u249 u250 u251 u252 u253 u254 u255 u256 u257 u258 u259 u260 : Value} (w : World) (HC : Hid (IntRow w w.heap.size cA 3 X))
    (Q : Exit → Act → World → Prop) (hK : ∀ {x27 x28 x211 x212 x213 x214 x215 x216 x217 x218 x219 x220 x221 x222 x223 x224 x225 x226 x227 x228 : Value} (w' : World), Hid (Below w.heap.size w w') → Q .normal ⟨(List.toArray (u0 :: u1 :: u2 :: u3 :: u4 :: u5 :: u6 :: u7 :: u8 :: u9 :: u10 :: u11 :: u12 :: u13 :: u14 :: u15 :: u16 :: u17 :: u18 :: u19 :: u20 :: u21 :: (.slice cA 3 cc) :: u23 :: u24 :: (.int .i64 (lstN x X 3)) :: (.int .i64 (grtN x X 3)) :: x27 :: x28 :: u29 :: u30 :: u31 :: u32 :: u33 :: u34 :: u35 :: u36 :: u37 :: u38 :: u39 :: u40 :: u41 :: u42 :: u43 :: u44 :: u45 :: u46 :: u47 :: u48 :: u49 :: u50 :: u51 :: u52 :: u53 :: u54 :: u55 :: u56 :: u57 :: u58 :: u59 :: u60 :: u61 :: u62 :: u63 :: u64 :: u65 :: u66 :: u67 :: u68 :: u69 :: u70 :: u71 :: u72 :: u73 :: u74 :: u75 :: u76 :: u77 :: u78 :: u79 :: u80 :: u81 :: u82 :: u83 :: u84 :: u85 :: u86 :: u87 :: u88 :: u89 :: u90 :: u91 :: u92 :: u93 :: u94 :: u95 :: u96 :: u97 :: u98 :: u99 :: u100 :: u101 :: u102 :: u103 :: u104 :: u105 :: u106 :: u107 :: u108 :: u109 :: u110 :: u111 :: u112 :: u113 :: u114 :: u115 :: u116 :: u117 :: u118 :: u119 :: u120 :: u121 :: u122 :: u123 :: u124 :: u125 :: u126 :: u127 :: u128 :: u129 :: u130 :: u131 :: u132 :: u133 :: u134 :: u135 :: u136 :: u137 :: u138 :: u139 :: u140 :: u141 :: u142 :: u143 :: u144 :: u145 :: u146 :: u147 :: u148 :: u149 :: u150 :: u151 :: u152 :: u153 :: u154 :: u155 :: u156 :: u157 :: u158 :: u159 :: u160 :: u161 :: u162 :: u163 :: u164 :: u165 :: u166 :: u167 :: u168 :: u169 :: u170 :: u171 :: u172 :: u173 :: u174 :: u175 :: u176 :: u177 :: u178 :: u179 :: u180 :: u181 :: u182 :: u183 :: u184 :: u185 :: u186 :: u187 :: u188 :: u189 :: u190 :: u191 :: u192 :: u193 :: u194 :: u195 :: u196 :: u197 :: u198 :: u199 :: u200 :: u201 :: u202 :: u203 :: u204 :: u205 :: u206 :: u207 :: u208 :: u209 :: (.agg #[.int .i64 (x.lo 0), .int .i64 (x.hi 0), .int .i64 (x.lo 1), .int .i64 (x.hi 1), .int .i64 (x.lo 2), .int .i64 (x.hi 2)]) :: x211 :: x212 :: x213 :: x214 :: x215 :: x216 :: x217 :: x218 :: x219 :: x220 :: x221 :: x222 :: x223 :: x224 :: x225 :: x226 :: x227 :: x228 :: u229 :: u230 :: u231 :: u232 :: u233 :: u234 :: u235 :: u236 :: u237 :: u238 :: u239 :: u240 :: u241 :: u242 :: u243 :: u244 :: u245 :: u246 :: u247 :: u248 :: u249 :: u250 :: u251 :: u252 :: u253 :: u254 :: u255 :: u256 :: u257 :: u258 :: u259 :: u260 :: [])), []⟩ w') :
    Code.wp Try.prog (blkIn Try.f5 2) Q ⟨(List.toArray (u0 :: u1 :: u2 :: u3 :: u4 :: u5 :: u6 :: u7 :: u8 :: u9 :: u10 :: u11 :: u12 :: u13 :: u14 :: u15 :: u16 :: u17 :: u18 :: u19 :: u20 :: u21 :: (.slice cA 3 cc) :: u23 :: u24 :: (.int .i64 50) :: (.int .i64 0) :: u27 :: u28 :: u29 :: u30 :: u31 :: u32 :: u33 :: u34 :: u35 :: u36 :: u37 :: u38 :: u39 :: u40 :: u41 :: u42 :: u43 :: u44 :: u45 :: u46 :: u47 :: u48 :: u49 :: u50 :: u51 :: u52 :: u53 :: u54 :: u55 :: u56 :: u57 :: u58 :: u59 :: u60 :: u61 :: u62 :: u63 :: u64 :: u65 :: u66 :: u67 :: u68 :: u69 :: u70 :: u71 :: u72 :: u73 :: u74 :: u75 :: u76 :: u77 :: u78 :: u79 :: u80 :: u81 :: u82 :: u83 :: u84 :: u85 :: u86 :: u87 :: u88 :: u89 :: u90 :: u91 :: u92 :: u93 :: u94 :: u95 :: u96 :: u97 :: u98 :: u99 :: u100 :: u101 :: u102 :: u103 :: u104 :: u105 :: u106 :: u107 :: u108 :: u109 :: u110 :: u111 :: u112 :: u113 :: u114 :: u115 :: u116 :: u117 :: u118 :: u119 :: u120 :: u121 :: u122 :: u123 :: u124 :: u125 :: u126 :: u127 :: u128 :: u129 :: u130 :: u131 :: u132 :: u133 :: u134 :: u135 :: u136 :: u137 :: u138 :: u139 :: u140 :: u141 :: u142 :: u143 :: u144 :: u145 :: u146 :: u147 :: u148 :: u149 :: u150 :: u151 :: u152 :: u153 :: u154 :: u155 :: u156 :: u157 :: u158 :: u159 :: u160 :: u161 :: u162 :: u163 :: u164 :: u165 :: u166 :: u167 :: u168 :: u169 :: u170 :: u171 :: u172 :: u173 :: u174 :: u175 :: u176 :: u177 :: u178 :: u179 :: u180 :: u181 :: u182 :: u183 :: u184 :: u185 :: u186 :: u187 :: u188 :: u189 :: u190 :: u191 :: u192 :: u193 :: u194 :: u195 :: u196 :: u197 :: u198 :: u199 :: u200 :: u201 :: u202 :: u203 :: u204 :: u205 :: u206 :: u207 :: u208 :: u209 :: (.agg #[.int .i64 (x.lo 0), .int .i64 (x.hi 0), .int .i64 (x.lo 1), .int .i64 (x.hi 1), .int .i64 (x.lo 2), .int .i64 (x.hi 2)]) :: (.int .i64 0) :: u212 :: u213 :: u214 :: u215 :: u216 :: u217 :: u218 :: u219 :: u220 :: u221 :: u222 :: u223 :: u224 :: u225 :: u226 :: u227 :: u228 :: u229 :: u230 :: u231 :: u232 :: u233 :: u234 :: u235 :: u236 :: u237 :: u238 :: u239 :: u240 :: u241 :: u242 :: u243 :: u244 :: u245 :: u246 :: u247 :: u248 :: u249 :: u250 :: u251 :: u252 :: u253 :: u254 :: u255 :: u256 :: u257 :: u258 :: u259 :: u260 :: [])), []⟩ w := by
  (conv => arg 2; whnf)
  go_wp2_with fail
  go_loopw [25, 26, 211] (fun v1 v2 i wr => ∃ m : Nat, m ≤ 3 ∧ i = .int .i64 m ∧ v1 = .int .i64 (lstN x X m) ∧ v2 = .int .i64 (grtN x X m) ∧ Hid (Below w.heap.size w wr)) (fun _ _ i _ => 3 - (intOf i).toNat)
  case atStart => exact ⟨0, by omega, rfl, rfl, rfl, Lib.hid (Below.refl _ _)⟩
  case round =>
    obtain ⟨m, hm, rfl, rfl, rfl, HB⟩ := hrel
    obtain ⟨wo, rfl⟩ : ∃ wo, wo = wr := ⟨_, rfl⟩
    have hsz := HB.out.size
    rcases (show m = 0 ∨ m = 1 ∨ m = 2 ∨ m = 3 by omega) with rfl | rfl | rfl | rfl
    · obtain ⟨cb, co, hcA, hcl, q0⟩ := (HC.out.below HB.out) 0 (by omega)
      subst hcA
      have e1 : lstN x X (0 + 1) = if 0 < X 0 then min (lstN x X 0) (x.lo 0) else lstN x X 0 := rfl
      have e2 : grtN x X (0 + 1) = if 0 < X 0 then max (grtN x X 0) (x.hi 0) else grtN x X 0 := rfl
      have E := Lib.hid (And.intro e1 e2)
      obtain ⟨z1, hz1⟩ : ∃ z, z = lstN x X 0 := ⟨_, rfl⟩
      obtain ⟨z2, hz2⟩ : ∃ z, z = grtN x X 0 := ⟨_, rfl⟩
      obtain ⟨y, hy⟩ : ∃ y, y = X 0 := ⟨_, rfl⟩
      rw [← hy] at q0
      have EE := Lib.hid (And.intro hz1 (And.intro hz2 hy))
      rw [← hz1, ← hz2]
      clear e1 e2 hz1 hz2 hy
      go_upto_region 29 with fail
      refine wp_world (fun w' => N2c w' wo.heap.size (x.lo 0) (x.hi 0) ∧ Below wo.heap.size wo w' ∧ wo.heap.size + 1 ≤ w'.heap.size) ⟨⟨(by (repeat' refine And.intro ?_ ?_) <;> (repeat (first | (with_reducible assumption) | (simp; done) | (with_reducible refine cell_drew_of ?_) | (with_reducible refine cell_drewN_of ?_) | (with_reducible refine cell_below_of (by with_reducible assumption) ?_) | ((with_reducible refine cell_new_of ?_ ?_) <;> (first | (with_reducible rfl) | (simp; done))) | ((with_reducible refine fro_new_of ?_) <;> (first | (with_reducible rfl) | (simp; done))) | (with_reducible refine cell_alloc_of _ ?_) | (with_reducible refine cell_set_of _ (by (first | exact Nat.le_refl _ | omega | (simp; done) | (simp; omega))) ?_) | (with_reducible refine fro_drew_of ?_) | (with_reducible refine fro_drewN_of ?_) | (with_reducible refine fro_below_of (by with_reducible assumption) (by (first | exact Nat.le_refl _ | omega | (simp; done) | (simp; omega))) ?_) | (with_reducible refine fro_alloc_of _ (by (first | exact Nat.le_refl _ | omega | (simp; done) | (simp; omega))) ?_) | (with_reducible refine fro_set_of _ ?_)))), (by (repeat' refine And.intro ?_ ?_) <;> (repeat (first | (with_reducible assumption) | (simp; done) | (with_reducible refine cell_drew_of ?_) | (with_reducible refine cell_drewN_of ?_) | (with_reducible refine cell_below_of (by with_reducible assumption) ?_) | ((with_reducible refine cell_new_of ?_ ?_) <;> (first | (with_reducible rfl) | (simp; done))) | ((with_reducible refine fro_new_of ?_) <;> (first | (with_reducible rfl) | (simp; done))) | (with_reducible refine cell_alloc_of _ ?_) | (with_reducible refine cell_set_of _ (by (first | exact Nat.le_refl _ | omega | (simp; done) | (simp; omega))) ?_) | (with_reducible refine fro_drew_of ?_) | (with_reducible refine fro_drewN_of ?_) | (with_reducible refine fro_below_of (by with_reducible assumption) (by (first | exact Nat.le_refl _ | omega | (simp; done) | (simp; omega))) ?_) | (with_reducible refine fro_alloc_of _ (by (first | exact Nat.le_refl _ | omega | (simp; done) | (simp; omega))) ?_) | (with_reducible refine fro_set_of _ ?_))))⟩, (by repeat (first | (with_reducible exact Below.refl _ _) | (with_reducible assumption) | (with_reducible refine Below.drew ?_) | ((with_reducible refine below_alloc ?_ ?_ _); (· (first | exact Nat.le_refl _ | omega | (dsimp only; omega) | (simp only [World.size_alloc, World.size_drew, World.heap_drewN]; omega) | (simp; omega)))) | ((with_reducible refine below_set ?_ ?_ _); (· (first | exact Nat.le_refl _ | omega | (dsimp only; omega) | (simp only [World.size_alloc, World.size_drew, World.heap_drewN]; omega) | (simp; omega)))) | ((with_reducible refine below_via (by with_reducible assumption) ?_ ?_); (· (first | exact Nat.le_refl _ | omega | (dsimp only; omega) | (simp only [World.size_alloc, World.size_drew, World.heap_drewN]; omega) | (simp; omega)))))), by simp⟩ ?_
      rintro w9 ⟨hp9, hb9, hs9⟩
      have HB9 := Lib.hid (HB.out.trans (hb9.mono hsz))
      replace q0 := cell_below_of hb9 q0
      (try rw [Nat.add_zero] at q0)
      obtain ⟨p0, p1⟩ := hp9
      obtain ⟨px, hpx⟩ : ∃ z, z = wo.heap.size := ⟨_, rfl⟩
      rw [← hpx] at p0 p1
      rw [← hpx]
      clear hb9 hs9 hpx
      by_cases hp : 0 < y
      · have HE : Hid (lstN x X (0 + 1) = min z1 (x.lo 0) ∧ grtN x X (0 + 1) = max z2 (x.hi 0)) := Lib.hid (by
          obtain ⟨a, b, c⟩ := EE.out
          rw [E.out.1, E.out.2, ← a, ← b, ← c, if_pos hp, if_pos hp]
          exact ⟨rfl, rfl⟩)
        go_upto_region 30 with fail
        go_region
        all_goals
          go_wp2_with fail
          go_roundw
          case rel => exact ⟨0 + 1, by omega, by first | rfl | go_num, by rw [HE.out.1], by rw [HE.out.2], by first | exact HB9 | exact Lib.hid HB9.out.drew⟩
          case measure => simp [intOf]
      · have HE : Hid (lstN x X (0 + 1) = z1 ∧ grtN x X (0 + 1) = z2) := Lib.hid (by
          obtain ⟨a, b, c⟩ := EE.out
          rw [E.out.1, E.out.2, ← a, ← b, ← c, if_neg hp, if_neg hp]
          exact ⟨rfl, rfl⟩)
        go_wp2_with fail
        go_roundw
        case rel => exact ⟨0 + 1, by omega, by first | rfl | go_num, by rw [HE.out.1], by rw [HE.out.2], HB9⟩
        case measure => simp [intOf]
    · obtain ⟨cb, co, hcA, hcl, q0⟩ := (HC.out.below HB.out) 1 (by omega)
      subst hcA
      have e1 : lstN x X (1 + 1) = if 0 < X 1 then min (lstN x X 1) (x.lo 1) else lstN x X 1 := rfl
      have e2 : grtN x X (1 + 1) = if 0 < X 1 then max (grtN x X 1) (x.hi 1) else grtN x X 1 := rfl
      have E := Lib.hid (And.intro e1 e2)
      obtain ⟨z1, hz1⟩ : ∃ z, z = lstN x X 1 := ⟨_, rfl⟩
      obtain ⟨z2, hz2⟩ : ∃ z, z = grtN x X 1 := ⟨_, rfl⟩
      obtain ⟨y, hy⟩ : ∃ y, y = X 1 := ⟨_, rfl⟩
      rw [← hy] at q0
      have EE := Lib.hid (And.intro hz1 (And.intro hz2 hy))
      rw [← hz1, ← hz2]
      clear e1 e2 hz1 hz2 hy
      go_upto_region 29 with fail
      refine wp_world (fun w' => N2c w' wo.heap.size (x.lo 1) (x.hi 1) ∧ Below wo.heap.size wo w' ∧ wo.heap.size + 1 ≤ w'.heap.size) ⟨⟨(by (repeat' refine And.intro ?_ ?_) <;> (repeat (first | (with_reducible assumption) | (simp; done) | (with_reducible refine cell_drew_of ?_) | (with_reducible refine cell_drewN_of ?_) | (with_reducible refine cell_below_of (by with_reducible assumption) ?_) | ((with_reducible refine cell_new_of ?_ ?_) <;> (first | (with_reducible rfl) | (simp; done))) | ((with_reducible refine fro_new_of ?_) <;> (first | (with_reducible rfl) | (simp; done))) | (with_reducible refine cell_alloc_of _ ?_) | (with_reducible refine cell_set_of _ (by (first | exact Nat.le_refl _ | omega | (simp; done) | (simp; omega))) ?_) | (with_reducible refine fro_drew_of ?_) | (with_reducible refine fro_drewN_of ?_) | (with_reducible refine fro_below_of (by with_reducible assumption) (by (first | exact Nat.le_refl _ | omega | (simp; done) | (simp; omega))) ?_) | (with_reducible refine fro_alloc_of _ (by (first | exact Nat.le_refl _ | omega | (simp; done) | (simp; omega))) ?_) | (with_reducible refine fro_set_of _ ?_)))), (by (repeat' refine And.intro ?_ ?_) <;> (repeat (first | (with_reducible assumption) | (simp; done) | (with_reducible refine cell_drew_of ?_) | (with_reducible refine cell_drewN_of ?_) | (with_reducible refine cell_below_of (by with_reducible assumption) ?_) | ((with_reducible refine cell_new_of ?_ ?_) <;> (first | (with_reducible rfl) | (simp; done))) | ((with_reducible refine fro_new_of ?_) <;> (first | (with_reducible rfl) | (simp; done))) | (with_reducible refine cell_alloc_of _ ?_) | (with_reducible refine cell_set_of _ (by (first | exact Nat.le_refl _ | omega | (simp; done) | (simp; omega))) ?_) | (with_reducible refine fro_drew_of ?_) | (with_reducible refine fro_drewN_of ?_) | (with_reducible refine fro_below_of (by with_reducible assumption) (by (first | exact Nat.le_refl _ | omega | (simp; done) | (simp; omega))) ?_) | (with_reducible refine fro_alloc_of _ (by (first | exact Nat.le_refl _ | omega | (simp; done) | (simp; omega))) ?_) | (with_reducible refine fro_set_of _ ?_))))⟩, (by repeat (first | (with_reducible exact Below.refl _ _) | (with_reducible assumption) | (with_reducible refine Below.drew ?_) | ((with_reducible refine below_alloc ?_ ?_ _); (· (first | exact Nat.le_refl _ | omega | (dsimp only; omega) | (simp only [World.size_alloc, World.size_drew, World.heap_drewN]; omega) | (simp; omega)))) | ((with_reducible refine below_set ?_ ?_ _); (· (first | exact Nat.le_refl _ | omega | (dsimp only; omega) | (simp only [World.size_alloc, World.size_drew, World.heap_drewN]; omega) | (simp; omega)))) | ((with_reducible refine below_via (by with_reducible assumption) ?_ ?_); (· (first | exact Nat.le_refl _ | omega | (dsimp only; omega) | (simp only [World.size_alloc, World.size_drew, World.heap_drewN]; omega) | (simp; omega)))))), by simp⟩ ?_
      rintro w9 ⟨hp9, hb9, hs9⟩
      have HB9 := Lib.hid (HB.out.trans (hb9.mono hsz))
      replace q0 := cell_below_of hb9 q0
      (try rw [Nat.add_zero] at q0)
      obtain ⟨p0, p1⟩ := hp9
      obtain ⟨px, hpx⟩ : ∃ z, z = wo.heap.size := ⟨_, rfl⟩
      rw [← hpx] at p0 p1
      rw [← hpx]
      clear hb9 hs9 hpx
      by_cases hp : 0 < y
      · have HE : Hid (lstN x X (1 + 1) = min z1 (x.lo 1) ∧ grtN x X (1 + 1) = max z2 (x.hi 1)) := Lib.hid (by
          obtain ⟨a, b, c⟩ := EE.out
          rw [E.out.1, E.out.2, ← a, ← b, ← c, if_pos hp, if_pos hp]
          exact ⟨rfl, rfl⟩)
        go_upto_region 30 with fail
        go_region
        all_goals
          go_wp2_with fail
          go_roundw
          case rel => exact ⟨1 + 1, by omega, by first | rfl | go_num, by rw [HE.out.1], by rw [HE.out.2], by first | exact HB9 | exact Lib.hid HB9.out.drew⟩
          case measure => simp [intOf]
      · have HE : Hid (lstN x X (1 + 1) = z1 ∧ grtN x X (1 + 1) = z2) := Lib.hid (by
          obtain ⟨a, b, c⟩ := EE.out
          rw [E.out.1, E.out.2, ← a, ← b, ← c, if_neg hp, if_neg hp]
          exact ⟨rfl, rfl⟩)
        go_wp2_with fail
        go_roundw
        case rel => exact ⟨1 + 1, by omega, by first | rfl | go_num, by rw [HE.out.1], by rw [HE.out.2], HB9⟩
        case measure => simp [intOf]
    · obtain ⟨cb, co, hcA, hcl, q0⟩ := (HC.out.below HB.out) 2 (by omega)
      subst hcA
      have e1 : lstN x X (2 + 1) = if 0 < X 2 then min (lstN x X 2) (x.lo 2) else lstN x X 2 := rfl
      have e2 : grtN x X (2 + 1) = if 0 < X 2 then max (grtN x X 2) (x.hi 2) else grtN x X 2 := rfl
      have E := Lib.hid (And.intro e1 e2)
      obtain ⟨z1, hz1⟩ : ∃ z, z = lstN x X 2 := ⟨_, rfl⟩
      obtain ⟨z2, hz2⟩ : ∃ z, z = grtN x X 2 := ⟨_, rfl⟩
      obtain ⟨y, hy⟩ : ∃ y, y = X 2 := ⟨_, rfl⟩
      rw [← hy] at q0
      have EE := Lib.hid (And.intro hz1 (And.intro hz2 hy))
      rw [← hz1, ← hz2]
      clear e1 e2 hz1 hz2 hy
      go_upto_region 29 with fail
      refine wp_world (fun w' => N2c w' wo.heap.size (x.lo 2) (x.hi 2) ∧ Below wo.heap.size wo w' ∧ wo.heap.size + 1 ≤ w'.heap.size) ⟨⟨(by (repeat' refine And.intro ?_ ?_) <;> (repeat (first | (with_reducible assumption) | (simp; done) | (with_reducible refine cell_drew_of ?_) | (with_reducible refine cell_drewN_of ?_) | (with_reducible refine cell_below_of (by with_reducible assumption) ?_) | ((with_reducible refine cell_new_of ?_ ?_) <;> (first | (with_reducible rfl) | (simp; done))) | ((with_reducible refine fro_new_of ?_) <;> (first | (with_reducible rfl) | (simp; done))) | (with_reducible refine cell_alloc_of _ ?_) | (with_reducible refine cell_set_of _ (by (first | exact Nat.le_refl _ | omega | (simp; done) | (simp; omega))) ?_) | (with_reducible refine fro_drew_of ?_) | (with_reducible refine fro_drewN_of ?_) | (with_reducible refine fro_below_of (by with_reducible assumption) (by (first | exact Nat.le_refl _ | omega | (simp; done) | (simp; omega))) ?_) | (with_reducible refine fro_alloc_of _ (by (first | exact Nat.le_refl _ | omega | (simp; done) | (simp; omega))) ?_) | (with_reducible refine fro_set_of _ ?_)))), (by (repeat' refine And.intro ?_ ?_) <;> (repeat (first | (with_reducible assumption) | (simp; done) | (with_reducible refine cell_drew_of ?_) | (with_reducible refine cell_drewN_of ?_) | (with_reducible refine cell_below_of (by with_reducible assumption) ?_) | ((with_reducible refine cell_new_of ?_ ?_) <;> (first | (with_reducible rfl) | (simp; done))) | ((with_reducible refine fro_new_of ?_) <;> (first | (with_reducible rfl) | (simp; done))) | (with_reducible refine cell_alloc_of _ ?_) | (with_reducible refine cell_set_of _ (by (first | exact Nat.le_refl _ | omega | (simp; done) | (simp; omega))) ?_) | (with_reducible refine fro_drew_of ?_) | (with_reducible refine fro_drewN_of ?_) | (with_reducible refine fro_below_of (by with_reducible assumption) (by (first | exact Nat.le_refl _ | omega | (simp; done) | (simp; omega))) ?_) | (with_reducible refine fro_alloc_of _ (by (first | exact Nat.le_refl _ | omega | (simp; done) | (simp; omega))) ?_) | (with_reducible refine fro_set_of _ ?_))))⟩, (by repeat (first | (with_reducible exact Below.refl _ _) | (with_reducible assumption) | (with_reducible refine Below.drew ?_) | ((with_reducible refine below_alloc ?_ ?_ _); (· (first | exact Nat.le_refl _ | omega | (dsimp only; omega) | (simp only [World.size_alloc, World.size_drew, World.heap_drewN]; omega) | (simp; omega)))) | ((with_reducible refine below_set ?_ ?_ _); (· (first | exact Nat.le_refl _ | omega | (dsimp only; omega) | (simp only [World.size_alloc, World.size_drew, World.heap_drewN]; omega) | (simp; omega)))) | ((with_reducible refine below_via (by with_reducible assumption) ?_ ?_); (· (first | exact Nat.le_refl _ | omega | (dsimp only; omega) | (simp only [World.size_alloc, World.size_drew, World.heap_drewN]; omega) | (simp; omega)))))), by simp⟩ ?_
      rintro w9 ⟨hp9, hb9, hs9⟩
      have HB9 := Lib.hid (HB.out.trans (hb9.mono hsz))
      replace q0 := cell_below_of hb9 q0
      (try rw [Nat.add_zero] at q0)
      obtain ⟨p0, p1⟩ := hp9
      obtain ⟨px, hpx⟩ : ∃ z, z = wo.heap.size := ⟨_, rfl⟩
      rw [← hpx] at p0 p1
      rw [← hpx]
      clear hb9 hs9 hpx
      by_cases hp : 0 < y
      · have HE : Hid (lstN x X (2 + 1) = min z1 (x.lo 2) ∧ grtN x X (2 + 1) = max z2 (x.hi 2)) := Lib.hid (by
          obtain ⟨a, b, c⟩ := EE.out
          rw [E.out.1, E.out.2, ← a, ← b, ← c, if_pos hp, if_pos hp]
          exact ⟨rfl, rfl⟩)
        go_upto_region 30 with fail
        go_region
        all_goals
          go_wp2_with fail
          go_roundw
          case rel => exact ⟨2 + 1, by omega, by first | rfl | go_num, by rw [HE.out.1], by rw [HE.out.2], by first | exact HB9 | exact Lib.hid HB9.out.drew⟩
          case measure => simp [intOf]
      · have HE : Hid (lstN x X (2 + 1) = z1 ∧ grtN x X (2 + 1) = z2) := Lib.hid (by
          obtain ⟨a, b, c⟩ := EE.out
          rw [E.out.1, E.out.2, ← a, ← b, ← c, if_neg hp, if_neg hp]
          exact ⟨rfl, rfl⟩)
        go_wp2_with fail
        go_roundw
        case rel => exact ⟨2 + 1, by omega, by first | rfl | go_num, by rw [HE.out.1], by rw [HE.out.2], HB9⟩
        case measure => simp [intOf]
    · go_wp2_with fail
      all_goals exact HB
end Go.Proofs.Ytnnikeolgknfoaa
