/- BinTurned: its loop over the pairs. -/
import Derived.Test.YtnnikeolgknfoaaBs
import Derived.Test.YtnnikeolgknfoaaBl
import Derived.Test.YtnnikeolgknfoaaU1
import Derived.Test.YtnnikeolgknfoaaBg
import Derived.Test.YtnnikeolgknfoaaD3
import Derived.Test.YtnnikeolgknfoaaNq
import Derived.Test.YtnnikeolgknfoaaE4
import Derived.Deep.CutBlock
set_option linter.unusedSimpArgs false
set_option linter.unusedVariables false
namespace Go.Proofs.Ytnnikeolgknfoaa
open Go.RowKit Go.Shelf

/-- a walk that shows, or the error -/
def WhyPost (r : Rw) (f t : Int) (most : Bool) (W : World) (e : Ending) (W' : World) : Prop :=
  (r.askErr f t = 0 ∧ ∃ (l : List Fc) (A : Option Addr) (c : Nat), e = .returned (.tuple #[.slice A l.length c, .int .i64 0]) ∧ W'.ownsRow W.heap.size 80 3 (.slice A l.length c) l.length (fcL l) ∧ Chain r (waysR f t most).1.toNat (waysR f t most).2.toNat l ∧ wsum r l = r.search.1.L (waysR f t most).1.toNat (waysR f t most).2.toNat ∧ l.length ≤ r.n ∧ Below W.heap.size W W') ∨
  (r.askErr f t ≠ 0 ∧ e = .returned (.tuple #[.slice none 0 0, .int .i64 (r.askErr f t)]) ∧ Below W.heap.size W W')

set_option maxRecDepth 100000 in
set_option maxHeartbeats 4000000 in
theorem Why_any (r : Rw) (f t : Int) (most : Bool) (bA dA vA : Option Addr) (bc dc vc : Nat) (W : World) (hrow : RwRow W W.heap.size r bA bc dA dc vA vc) :
    Calls Try.prog 31 #[rwV bA r.n bc dA r.d dc vA r.m vc, .int .i64 f, .int .i64 t, .bool most] W (WhyPost r f t most W) := by
  have H0 := Lib.hid hrow
  clear hrow
  go_enter Try.func31, Try.ntmps31
  go_wp2_with fail
  refine (asked_any r f t bA dA vA bc dc vc _ ((H0.out.later (by repeat (first | (with_reducible first | exact Below.refl _ _ | assumption | refine Below.drew ?_) | ((with_reducible first | refine Lc ?_ ?_ _ | refine Ls ?_ ?_ _ | refine Lv (by assumption) ?_ ?_); · first | exact Nat.le_refl _ | omega | (dsimp only; omega) | (simp only [World.size_alloc, World.size_drew, World.heap_drewN]; omega) | (simp; omega))))).up (by first | exact Nat.le_refl _ | omega | (simp; done) | (simp; omega) | (simp at *; omega)) (by first | exact Nat.le_refl _ | omega | (simp; done) | (simp; omega) | (simp at *; omega)))).mono ?_
  rintro e w1 (⟨h0, db, A, c, rfl, hdb, hd, ho, hb1⟩ | ⟨h0, rfl, hb1⟩)
  · have HB1 := Lib.hid (show Below W.heap.size W w1 from (by repeat (first | (with_reducible first | exact Below.refl _ _ | refine Below.drew ?_ | refine below_drewN ?_ _) | ((with_reducible first | refine Lc ?_ ?_ _ | refine Ls ?_ ?_ _ | refine Lv (by assumption) ?_ ?_); · first | exact Nat.le_refl _ | omega | (simp; done) | (simp; omega) | (simp at *; omega)))))
    obtain ⟨hok, hf0, hft, htn, hrd⟩ := Rw.ask_ok h0
    obtain ⟨f', rfl⟩ := Int.eq_ofNat_of_zero_le hf0
    obtain ⟨t', rfl⟩ := Int.eq_ofNat_of_zero_le (by omega : 0 ≤ t)
    have hfin := Rw.fin_of hok hrd
    have hn6 := hok.n6
    have hs1 := HB1.out.size
    have HD := Lib.hid hd
    have HE := Lib.hid h0
    have hww : waysR (f' : Int) (t' : Int) most = (((if most then f' else t' + 1 : Nat) : Int), ((if most then t' + 1 else f' : Nat) : Int)) := by
      unfold waysR
      cases most <;> simp
    obtain ⟨x, hx⟩ : ∃ x : Nat, x = (if most then f' else t' + 1) := ⟨_, rfl⟩
    obtain ⟨y, hy⟩ : ∃ y : Nat, y = (if most then t' + 1 else f') := ⟨_, rfl⟩
    rw [← hx, ← hy] at hww
    have hxn : x ≤ r.n ∧ y ≤ r.n := by
      rw [hx, hy]
      cases most <;> simp <;> omega
    obtain ⟨hc, hsum, hlen⟩ := hfin.w x y hxn.1 hxn.2
    have hwk := Wk.of hok 7 x hxn.1 hc
    obtain ⟨l, hl⟩ : ∃ l, l = wlk r r.search.1.F y 7 x := ⟨_, rfl⟩
    rw [← hl] at hc hsum hlen hwk
    have HW := Lib.hid hwk
    have HC := Lib.hid (And.intro hc (And.intro hsum hlen))
    have HWW := Lib.hid hww
    have HOK := Lib.hid hok
    have hl1000 : l.length ≤ 1000 := by omega
    clear h0 hd ho hb1 hok hfin hrd hf0 hc hsum hlen hwk hl hx hy hww
    go_wp2_with fail
    refine (ways_any (f' : Int) (t' : Int) most (by omega) _).mono ?_
    rintro e w2 ⟨rfl, hb2⟩
    rw [HWW.out]
    have HB2 := Lib.hid (HB1.out.trans ((show Below w1.heap.size w1 w2 from (by repeat (first | (with_reducible first | exact Below.refl _ _ | assumption | refine Below.drew ?_) | ((with_reducible first | refine Lc ?_ ?_ _ | refine Ls ?_ ?_ _ | refine Lv (by assumption) ?_ ?_); · first | exact Nat.le_refl _ | omega | (dsimp only; omega) | (simp only [World.size_alloc, World.size_drew, World.heap_drewN]; omega) | (simp; omega))))).mono hs1))
    have hb12 : Below w1.heap.size w1 w2 := (by repeat (first | (with_reducible first | exact Below.refl _ _ | assumption | refine Below.drew ?_) | ((with_reducible first | refine Lc ?_ ?_ _ | refine Ls ?_ ?_ _ | refine Lv (by assumption) ?_ ?_); · first | exact Nat.le_refl _ | omega | (dsimp only; omega) | (simp only [World.size_alloc, World.size_drew, World.heap_drewN]; omega) | (simp; omega))))
    have HD2 := Lib.hid (HD.out.later hb12)
    have hs2 := HB2.out.size
    clear hb2 hb12 HD HB1
    go_wp2_with fail
    refine (walk_any r HOK.out r.search.1.F _ db bA dA vA bc dc vc y x hxn.2 hxn.1 l hl1000 HW.out _ (HD2.out.later (by repeat (first | (with_reducible first | exact Below.refl _ _ | assumption | refine Below.drew ?_) | ((with_reducible first | refine Lc ?_ ?_ _ | refine Ls ?_ ?_ _ | refine Lv (by assumption) ?_ ?_); · first | exact Nat.le_refl _ | omega | (dsimp only; omega) | (simp only [World.size_alloc, World.size_drew, World.heap_drewN]; omega) | (simp; omega))))).f (HD2.out.later (by repeat (first | (with_reducible first | exact Below.refl _ _ | assumption | refine Below.drew ?_) | ((with_reducible first | refine Lc ?_ ?_ _ | refine Ls ?_ ?_ _ | refine Lv (by assumption) ?_ ?_); · first | exact Nat.le_refl _ | omega | (dsimp only; omega) | (simp only [World.size_alloc, World.size_drew, World.heap_drewN]; omega) | (simp; omega))))).a).mono ?_
    rintro e w3 ⟨A3, c3, rfl, ho3, hb3⟩
    have HB3 := Lib.hid (HB2.out.trans ((show Below w2.heap.size w2 w3 from (by repeat (first | (with_reducible first | exact Below.refl _ _ | assumption | refine Below.drew ?_) | ((with_reducible first | refine Lc ?_ ?_ _ | refine Ls ?_ ?_ _ | refine Lv (by assumption) ?_ ?_); · first | exact Nat.le_refl _ | omega | (dsimp only; omega) | (simp only [World.size_alloc, World.size_drew, World.heap_drewN]; omega) | (simp; omega))))).mono hs2))
    have HO3 := Lib.hid ho3
    clear hb3 ho3
    go_wp2_with fail
    go_ret2
    refine .inl ⟨HE.out, l, A3, c3, rfl, owns_low (by first | exact Nat.le_refl _ | omega | (simp; done) | (simp; omega) | (simp at *; omega)) HO3.out, ?_, ?_, HC.out.2.2, HB3.out⟩
    · rw [HWW.out]
      exact HC.out.1
    · rw [HWW.out]
      exact HC.out.2.1
  · have HB1 := Lib.hid (show Below W.heap.size W w1 from (by repeat (first | (with_reducible first | exact Below.refl _ _ | refine Below.drew ?_ | refine below_drewN ?_ _) | ((with_reducible first | refine Lc ?_ ?_ _ | refine Ls ?_ ?_ _ | refine Lv (by assumption) ?_ ?_); · first | exact Nat.le_refl _ | omega | (simp; done) | (simp; omega) | (simp at *; omega)))))
    have hne : (r.askErr f t != 0) = true := by simpa using h0
    have HE := Lib.hid h0
    clear hb1 h0
    go_wp2_with fail
    go_ret2
    exact .inr ⟨HE.out, rfl, HB1.out⟩
end Go.Proofs.Ytnnikeolgknfoaa

set_option linter.unusedSimpArgs false
set_option linter.unusedVariables false
namespace Go.Proofs.Ytnnikeolgknfoaa
open Go.RowKit Go.Shelf

/-- a fact's box -/
structure FxAt (w : World) (b : Nat) (f : Fc) : Prop where
  c0 : w.cell? ⟨b, 0, none⟩ = some (.bool f.w)
  c1 : w.cell? ⟨b, 1, none⟩ = some (.int .i64 f.i)
  c2 : w.cell? ⟨b, 2, none⟩ = some (.bool f.m)
  f1 : w.frozen? ⟨b, 1, none⟩ = false
theorem backL_drop {n : Nat} {l : List Fc} {k : Nat} (hk : k < l.length) : backL n (l.drop k) = backL n (l.drop (k + 1)) ++ [(l.getD k fc0).mir n] := by
  rw [List.drop_eq_getElem_cons hk, List.getD_eq_getElem?_getD, List.getElem?_eq_getElem hk]
  unfold backL
  rw [List.map_cons, List.reverse_cons]
  rfl
theorem fcL_app1 (l : List Fc) (x : Fc) : fcL (l ++ [x]) = fcL l ++ fcC x := by simp [fcL]
theorem backL_len (n : Nat) (l : List Fc) : (backL n l).length = l.length := by simp [backL]

set_option maxRecDepth 100000 in
set_option maxHeartbeats 8000000 in
theorem turned_loop4 (n : Nat) (hn6 : n ≤ 6) (l : List Fc) (hl : l.length ≤ 6) (HB : Hid (∀ f, f ∈ l → 0 ≤ f.i ∧ f.i ≤ 10)) (wA : Option Addr) (wc : Nat) (hwc : l.length ≤ wc) {u0 u1 u2 u3 u4 u5 u6 u7 u9 u10 u11 u12 u13 u14 u15 u16 u17 u18 u19 u20 u22 u25 u26 u27 u28 u29 u30 u31 u32 u33 u34 u35 u36 u37 u38 u39 u40 u41 u42 u43 u44 u45 u46 u47 u48 u49 u50 u51 u52 u53 u54 u55 u56 u57 u58 u59 u60 u61 u62 u63 u64 u65 u66 u67 u68 u69 u70 u71 u72 u73 u74 u75 u76 u77 u78 u79 u80 u81 u82 u83 u84 u85 u86 u87 u88 u89 u90 u91 u92 u93 u94 u95 u96 u97 u98 u99 u100 u101 u102 u103 u104 u105 u106 u107 u108 u109 u110 u111 u112 u113 u114 u115 u116 u117 u118 u119 u120 u121 u122 u123 u124 u125 u126 u127 u128 u129 u130 u131 u132 u133 u134 u135 u136 u137 u138 u139 u140 u141 u142 u143 u144 u145 u146 u147 u148 u149 u150 u151 u152 u153 u154 u155 u156 u157 u158 u159 u160 u161 u162 u163 u164 u165 u166 u167 u168 u169 u170 u171 u172 u173 u174 u175 u176 u177 u178 u179 u180 u181 u182 u183 u184 u185 u186 u187 u188 u189 u190 u191 u192 u193 u194 u195 u196 u197 u198 u199 u200 u201 u202 u203 u204 u205 u206 u207 u208 u209 u210 u211 u212 u213 u214 u215 u216 u217 u218 u219 u220 u221 u222 u223 u224 u225 u226 u227 u228 u229 u230 u231 u232 u233 u234 u235 u236 u237 u238 u239 u240 u241 u242 u243 u244 u245 u246 u247 u248 u249 u250 u251 u252 u253 u254 u255 u256 u257 u258 u259 u260 u261 u262 u263 u264 u265 u266 u267 u268 u269 u270 u271 u272 u273 u274 : Value} (w : World) (HF : Hid (FcRow w w.heap.size wA l.length (fun k => l.getD k fc0)))
    (Q : Exit → Act → World → Prop) (hK : ∀ {x24 x25 x163 x164 x165 x166 x167 x168 x169 x170 x171 x172 x173 x174 x175 x176 x177 x178 x179 x180 x181 x182 x183 : Value} (v : Value) (w' : World), Hid (w'.ownsRow w.heap.size 80 3 v l.length (fcL (backL n l)) ∧ Below w.heap.size w w') → Q .normal ⟨(List.toArray (u0 :: u1 :: u2 :: u3 :: u4 :: u5 :: u6 :: u7 :: (.int .i64 (n : Int)) :: u9 :: u10 :: u11 :: u12 :: u13 :: u14 :: u15 :: u16 :: u17 :: u18 :: u19 :: u20 :: (.slice wA l.length wc) :: u22 :: (v) :: x24 :: x25 :: u26 :: u27 :: u28 :: u29 :: u30 :: u31 :: u32 :: u33 :: u34 :: u35 :: u36 :: u37 :: u38 :: u39 :: u40 :: u41 :: u42 :: u43 :: u44 :: u45 :: u46 :: u47 :: u48 :: u49 :: u50 :: u51 :: u52 :: u53 :: u54 :: u55 :: u56 :: u57 :: u58 :: u59 :: u60 :: u61 :: u62 :: u63 :: u64 :: u65 :: u66 :: u67 :: u68 :: u69 :: u70 :: u71 :: u72 :: u73 :: u74 :: u75 :: u76 :: u77 :: u78 :: u79 :: u80 :: u81 :: u82 :: u83 :: u84 :: u85 :: u86 :: u87 :: u88 :: u89 :: u90 :: u91 :: u92 :: u93 :: u94 :: u95 :: u96 :: u97 :: u98 :: u99 :: u100 :: u101 :: u102 :: u103 :: u104 :: u105 :: u106 :: u107 :: u108 :: u109 :: u110 :: u111 :: u112 :: u113 :: u114 :: u115 :: u116 :: u117 :: u118 :: u119 :: u120 :: u121 :: u122 :: u123 :: u124 :: u125 :: u126 :: u127 :: u128 :: u129 :: u130 :: u131 :: u132 :: u133 :: u134 :: u135 :: u136 :: u137 :: u138 :: u139 :: u140 :: u141 :: u142 :: u143 :: u144 :: u145 :: u146 :: u147 :: u148 :: u149 :: u150 :: u151 :: u152 :: u153 :: u154 :: u155 :: u156 :: u157 :: u158 :: u159 :: u160 :: u161 :: u162 :: x163 :: x164 :: x165 :: x166 :: x167 :: x168 :: x169 :: x170 :: x171 :: x172 :: x173 :: x174 :: x175 :: x176 :: x177 :: x178 :: x179 :: x180 :: x181 :: x182 :: x183 :: u184 :: u185 :: u186 :: u187 :: u188 :: u189 :: u190 :: u191 :: u192 :: u193 :: u194 :: u195 :: u196 :: u197 :: u198 :: u199 :: u200 :: u201 :: u202 :: u203 :: u204 :: u205 :: u206 :: u207 :: u208 :: u209 :: u210 :: u211 :: u212 :: u213 :: u214 :: u215 :: u216 :: u217 :: u218 :: u219 :: u220 :: u221 :: u222 :: u223 :: u224 :: u225 :: u226 :: u227 :: u228 :: u229 :: u230 :: u231 :: u232 :: u233 :: u234 :: u235 :: u236 :: u237 :: u238 :: u239 :: u240 :: u241 :: u242 :: u243 :: u244 :: u245 :: u246 :: u247 :: u248 :: u249 :: u250 :: u251 :: u252 :: u253 :: u254 :: u255 :: u256 :: u257 :: u258 :: u259 :: u260 :: u261 :: u262 :: u263 :: u264 :: u265 :: u266 :: u267 :: u268 :: u269 :: u270 :: u271 :: u272 :: u273 :: u274 :: [])), []⟩ w') :
    Code.wp Try.prog (blkIn Try.f7 6) Q ⟨(List.toArray (u0 :: u1 :: u2 :: u3 :: u4 :: u5 :: u6 :: u7 :: (.int .i64 (n : Int)) :: u9 :: u10 :: u11 :: u12 :: u13 :: u14 :: u15 :: u16 :: u17 :: u18 :: u19 :: u20 :: (.slice wA l.length wc) :: u22 :: (.slice none 0 0) :: (.int .i64 ((l.length : Int) - 1)) :: u25 :: u26 :: u27 :: u28 :: u29 :: u30 :: u31 :: u32 :: u33 :: u34 :: u35 :: u36 :: u37 :: u38 :: u39 :: u40 :: u41 :: u42 :: u43 :: u44 :: u45 :: u46 :: u47 :: u48 :: u49 :: u50 :: u51 :: u52 :: u53 :: u54 :: u55 :: u56 :: u57 :: u58 :: u59 :: u60 :: u61 :: u62 :: u63 :: u64 :: u65 :: u66 :: u67 :: u68 :: u69 :: u70 :: u71 :: u72 :: u73 :: u74 :: u75 :: u76 :: u77 :: u78 :: u79 :: u80 :: u81 :: u82 :: u83 :: u84 :: u85 :: u86 :: u87 :: u88 :: u89 :: u90 :: u91 :: u92 :: u93 :: u94 :: u95 :: u96 :: u97 :: u98 :: u99 :: u100 :: u101 :: u102 :: u103 :: u104 :: u105 :: u106 :: u107 :: u108 :: u109 :: u110 :: u111 :: u112 :: u113 :: u114 :: u115 :: u116 :: u117 :: u118 :: u119 :: u120 :: u121 :: u122 :: u123 :: u124 :: u125 :: u126 :: u127 :: u128 :: u129 :: u130 :: u131 :: u132 :: u133 :: u134 :: u135 :: u136 :: u137 :: u138 :: u139 :: u140 :: u141 :: u142 :: u143 :: u144 :: u145 :: u146 :: u147 :: u148 :: u149 :: u150 :: u151 :: u152 :: u153 :: u154 :: u155 :: u156 :: u157 :: u158 :: u159 :: u160 :: u161 :: u162 :: u163 :: u164 :: u165 :: u166 :: u167 :: u168 :: u169 :: u170 :: u171 :: u172 :: u173 :: u174 :: u175 :: u176 :: u177 :: u178 :: u179 :: u180 :: u181 :: u182 :: u183 :: u184 :: u185 :: u186 :: u187 :: u188 :: u189 :: u190 :: u191 :: u192 :: u193 :: u194 :: u195 :: u196 :: u197 :: u198 :: u199 :: u200 :: u201 :: u202 :: u203 :: u204 :: u205 :: u206 :: u207 :: u208 :: u209 :: u210 :: u211 :: u212 :: u213 :: u214 :: u215 :: u216 :: u217 :: u218 :: u219 :: u220 :: u221 :: u222 :: u223 :: u224 :: u225 :: u226 :: u227 :: u228 :: u229 :: u230 :: u231 :: u232 :: u233 :: u234 :: u235 :: u236 :: u237 :: u238 :: u239 :: u240 :: u241 :: u242 :: u243 :: u244 :: u245 :: u246 :: u247 :: u248 :: u249 :: u250 :: u251 :: u252 :: u253 :: u254 :: u255 :: u256 :: u257 :: u258 :: u259 :: u260 :: u261 :: u262 :: u263 :: u264 :: u265 :: u266 :: u267 :: u268 :: u269 :: u270 :: u271 :: u272 :: u273 :: u274 :: [])), []⟩ w := by
  (conv => arg 2; whnf)
  obtain ⟨i0, hi, hz0, hz1, hz2⟩ := info_parts infoFc
  go_wp2_with fail
  go_loopw [23, 24] (fun v i wr => ∃ k : Nat, k ≤ l.length ∧ i = .int .i64 ((k : Int) - 1) ∧ Hid (wr.ownsRow w.heap.size 80 3 v (l.length - k) (fcL (backL n (l.drop k)))) ∧ Hid (Below w.heap.size w wr)) (fun _ i _ => (intOf i + 1).toNat)
  case atStart => exact ⟨l.length, Nat.le_refl _, rfl, Lib.hid (by rw [List.drop_length, Nat.sub_self]; exact World.ownsRow_nil _ _ _ _), Lib.hid (Below.refl _ _)⟩
  case round =>
    obtain ⟨k, hk, rfl, HO, HBw⟩ := hrel
    obtain ⟨wo, rfl⟩ : ∃ wo, wo = wr := ⟨_, rfl⟩
    have hsw := HBw.out.size
    cases k with
    | zero =>
      have hge : ¬ (0 : Int) ≤ ((0 : Nat) : Int) - 1 := by omega
      have HE : Hid (wo.ownsRow w.heap.size 80 3 _ l.length (fcL (backL n l)) ∧ Below w.heap.size w wo) := Lib.hid ⟨HO.out, HBw.out⟩
      clear HO HBw
      go_wp2_with fail
      all_goals exact hK _ _ HE
    | succ k =>
      have hki : ((k + 1 : Nat) : Int) - 1 = (k : Int) := by omega
      rw [hki]
      have hk0 : (0 : Int) ≤ (k : Int) := by omega
      have hkn : (k : Int) < (l.length : Int) := by omega
      have ek : IntKind.i64.wrap ((k : Int) - 1) = (k : Int) - 1 := IntWalk.i64_in _ (by omega)
      obtain ⟨gb, go, hgA, hgl, d0, d1, d2⟩ := (HF.out.below HBw.out) k (by omega)
      have hmem : l.getD k fc0 ∈ l := by
        rw [List.getD_eq_getElem?_getD, List.getElem?_eq_getElem (show k < l.length by omega)]
        exact List.getElem_mem _
      have hfb := HB.out _ hmem
      have hbk := backL_drop (n := n) (l := l) (k := k) (by omega)
      obtain ⟨f, hf⟩ : ∃ f, f = l.getD k fc0 := ⟨_, rfl⟩
      dsimp only at d0 d1 d2
      rw [← hf] at d0 d1 d2 hfb hbk
      have HBK := Lib.hid hbk
      have hv1 := HO.out.lt
      have e1 : IntKind.i64.wrap ((n : Int) - 1) = (n : Int) - 1 := IntWalk.i64_in _ (by omega)
      have e2 : IntKind.i64.wrap ((n : Int) - 1 - f.i) = (n : Int) - 1 - f.i := IntWalk.i64_in _ (by omega)
      subst hgA
      clear hki hmem hbk hf
      go_upto_region 30 with fail
      refine wp_world (fun w' => FxAt w' wo.heap.size f ∧ Below wo.heap.size wo w' ∧ wo.heap.size + 1 ≤ w'.heap.size) ⟨⟨(by (repeat' refine And.intro ?_ ?_) <;> (repeat (first | with_reducible assumption | (simp; done) | (with_reducible first | refine Kd ?_ | refine Kn ?_ | refine Kb (by assumption) ?_) | ((with_reducible first | refine Kw ?_ ?_ | refine Fw ?_) <;> first | with_reducible rfl | (simp; done)) | (with_reducible first | refine Ka _ ?_ | refine Ks _ (by first | exact Nat.le_refl _ | omega | (simp; done) | (simp; omega)) ?_ | refine Fd ?_ | refine Fn ?_ | refine Fb (by assumption) (by first | exact Nat.le_refl _ | omega | (simp; done) | (simp; omega)) ?_ | refine Fa _ (by first | exact Nat.le_refl _ | omega | (simp; done) | (simp; omega)) ?_ | refine Fs _ ?_)))), (by (repeat' refine And.intro ?_ ?_) <;> (repeat (first | with_reducible assumption | (simp; done) | (with_reducible first | refine Kd ?_ | refine Kn ?_ | refine Kb (by assumption) ?_) | ((with_reducible first | refine Kw ?_ ?_ | refine Fw ?_) <;> first | with_reducible rfl | (simp; done)) | (with_reducible first | refine Ka _ ?_ | refine Ks _ (by first | exact Nat.le_refl _ | omega | (simp; done) | (simp; omega)) ?_ | refine Fd ?_ | refine Fn ?_ | refine Fb (by assumption) (by first | exact Nat.le_refl _ | omega | (simp; done) | (simp; omega)) ?_ | refine Fa _ (by first | exact Nat.le_refl _ | omega | (simp; done) | (simp; omega)) ?_ | refine Fs _ ?_)))), (by (repeat' refine And.intro ?_ ?_) <;> (repeat (first | with_reducible assumption | (simp; done) | (with_reducible first | refine Kd ?_ | refine Kn ?_ | refine Kb (by assumption) ?_) | ((with_reducible first | refine Kw ?_ ?_ | refine Fw ?_) <;> first | with_reducible rfl | (simp; done)) | (with_reducible first | refine Ka _ ?_ | refine Ks _ (by first | exact Nat.le_refl _ | omega | (simp; done) | (simp; omega)) ?_ | refine Fd ?_ | refine Fn ?_ | refine Fb (by assumption) (by first | exact Nat.le_refl _ | omega | (simp; done) | (simp; omega)) ?_ | refine Fa _ (by first | exact Nat.le_refl _ | omega | (simp; done) | (simp; omega)) ?_ | refine Fs _ ?_)))), (by (repeat' refine And.intro ?_ ?_) <;> (repeat (first | with_reducible assumption | (simp; done) | (with_reducible first | refine Kd ?_ | refine Kn ?_ | refine Kb (by assumption) ?_) | ((with_reducible first | refine Kw ?_ ?_ | refine Fw ?_) <;> first | with_reducible rfl | (simp; done)) | (with_reducible first | refine Ka _ ?_ | refine Ks _ (by first | exact Nat.le_refl _ | omega | (simp; done) | (simp; omega)) ?_ | refine Fd ?_ | refine Fn ?_ | refine Fb (by assumption) (by first | exact Nat.le_refl _ | omega | (simp; done) | (simp; omega)) ?_ | refine Fa _ (by first | exact Nat.le_refl _ | omega | (simp; done) | (simp; omega)) ?_ | refine Fs _ ?_))))⟩, (by repeat (first | (with_reducible first | exact Below.refl _ _ | assumption | refine Below.drew ?_) | ((with_reducible first | refine Lc ?_ ?_ _ | refine Ls ?_ ?_ _ | refine Lv (by assumption) ?_ ?_); · first | exact Nat.le_refl _ | omega | (dsimp only; omega) | (simp only [World.size_alloc, World.size_drew, World.heap_drewN]; omega) | (simp; omega)))), by simp⟩ ?_
      rintro w9 ⟨hx9, hb9, hs9⟩
      have HX9 := Lib.hid hx9
      have HB9 := Lib.hid (HBw.out.trans (hb9.mono hsw))
      have HO9 := Lib.hid (owns_later HO.out hb9)
      obtain ⟨xb, hxb⟩ : ∃ x, x = wo.heap.size := ⟨_, rfl⟩
      have hxlo : w.heap.size ≤ xb := by omega
      have hv2 : ∀ q, (_ : Value).ownBlock = some q → w.heap.size ≤ q ∧ q < xb := fun q hq => by rw [hxb]; exact hv1 q hq
      rw [← hxb] at HX9 hs9
      rw [← hxb]
      clear hx9 hb9 hxb d0 d1 d2 HO HBw
      obtain ⟨c0, c1, c2, f1⟩ := HX9.out
      have hxne : ∀ q, _ = some q → q ≠ xb := fun q hq => by have := hv2 q hq; omega
      cases hw : f.w
      · rw [hw] at c0
        have em : f.mir n = ⟨false, (n : Int) - 1 - f.i, f.m⟩ := by unfold Fc.mir; rw [hw]; rfl
        have EM := Lib.hid em
        clear hw em
        go_upto_region 32 with fail
        refine wp_world (fun w' => (w'.cell? ⟨xb, 0, none⟩ = some (.bool false) ∧ w'.cell? ⟨xb, 1, none⟩ = some (.int .i64 ((n : Int) - 1 - f.i)) ∧ w'.cell? ⟨xb, 2, none⟩ = some (.bool f.m)) ∧ w'.ownsRow w.heap.size 80 3 u23 (l.length - (k + 1)) (fcL (backL n (l.drop (k + 1)))) ∧ Below w.heap.size w w' ∧ xb + 1 ≤ w'.heap.size) ⟨⟨by simp [go_sem, c0], by simp [go_sem, c1], by simp [go_sem, c2]⟩, owns_sm HO9.out (fun q h1 h2 => set_heap _ (by dsimp only; exact hxne q h2)), HB9.out.setCell (by dsimp only; omega) _, by simp [World.setCell]; omega⟩ ?_
        rintro w10 ⟨⟨c0, c1, c2⟩, ho10, hb10, hs10⟩
        have HO10 := Lib.hid ho10
        have HB10 := Lib.hid hb10
        clear ho10 hb10 HO9 HB9 hv1 hv2 hxne
        go_upto_region 28 with (at_builtin; refine wpList_append_lies _ rfl (.tmp 180) (.tmp 182) 76 rfl w.heap.size 80 i0 (.agg #[.bool false, .int .i64 0, .bool false]) 3 24 fcs_under hi hz0 hz1 hz2 rfl (by decide) _ (l.length - (k + 1)) (fcL (backL n (l.drop (k + 1)))) rfl (HO10.out.alloc _) ⟨w10.heap.size, 0, none⟩ 1 1 (fcC ⟨false, (n : Int) - 1 - f.i, f.m⟩) rfl rfl (new_cells (cs := fcC ⟨false, (n : Int) - 1 - f.i, f.m⟩)) (fcC_one ⟨false, (n : Int) - 1 - f.i, f.m⟩) (by omega) (by unfold maxLen; omega) (by omega) (by simp; omega) (w10.heap.size + 1) (by simp) ?_; intro g cap w6 hown6 hgr6 hat6 hlt6)
        have hv10 := HO10.out.lt
        have HO11 : Hid (w6.ownsRow w.heap.size 80 3 (.slice (some ⟨g, 0, none⟩) (l.length - (k + 1) + 1) cap) (l.length - k) (fcL (backL n (l.drop k)))) := Lib.hid (by
          rw [HBK.out, EM.out, fcL_app1, show l.length - k = l.length - (k + 1) + 1 by omega]
          exact hown6)
        have HB11 : Hid (Below w.heap.size w w6) := Lib.hid (HB10.out.trans (Below.grown ((Below.refl _ w10).alloc (by omega) _) hgr6 (by simp; omega) (fun q hq => (hv10 q hq).1)))
        clear hown6 hgr6 hat6 hlt6 c0 c1 c2
        go_wp2_with fail
        go_roundw
        case rel => exact ⟨k, by omega, rfl, HO11, HB11⟩
        case measure => simp [intOf]
      · rw [hw] at c0
        have em : f.mir n = ⟨true, f.i, f.m⟩ := by
          unfold Fc.mir
          rw [hw, if_pos rfl, ← hw]
        have EM := Lib.hid em
        clear hw em
        go_upto_region 32 with fail
        obtain ⟨w10, hw10⟩ : ∃ x, x = w9 := ⟨_, rfl⟩
        rw [← hw10] at c0 c1 c2 HO9 HB9 hs9
        rw [← hw10]
        have HO10 := Lib.hid HO9.out
        have HB10 := Lib.hid HB9.out
        have hs10 := hs9
        clear hw10 HO9 HB9 hv1 hv2 hxne
        go_upto_region 28 with (at_builtin; refine wpList_append_lies _ rfl (.tmp 180) (.tmp 182) 76 rfl w.heap.size 80 i0 (.agg #[.bool false, .int .i64 0, .bool false]) 3 24 fcs_under hi hz0 hz1 hz2 rfl (by decide) _ (l.length - (k + 1)) (fcL (backL n (l.drop (k + 1)))) rfl (HO10.out.alloc _) ⟨w10.heap.size, 0, none⟩ 1 1 (fcC ⟨true, f.i, f.m⟩) rfl rfl (new_cells (cs := fcC ⟨true, f.i, f.m⟩)) (fcC_one ⟨true, f.i, f.m⟩) (by omega) (by unfold maxLen; omega) (by omega) (by simp; omega) (w10.heap.size + 1) (by simp) ?_; intro g cap w6 hown6 hgr6 hat6 hlt6)
        have hv10 := HO10.out.lt
        have HO11 : Hid (w6.ownsRow w.heap.size 80 3 (.slice (some ⟨g, 0, none⟩) (l.length - (k + 1) + 1) cap) (l.length - k) (fcL (backL n (l.drop k)))) := Lib.hid (by
          rw [HBK.out, EM.out, fcL_app1, show l.length - k = l.length - (k + 1) + 1 by omega]
          exact hown6)
        have HB11 : Hid (Below w.heap.size w w6) := Lib.hid (HB10.out.trans (Below.grown ((Below.refl _ w10).alloc (by omega) _) hgr6 (by simp; omega) (fun q hq => (hv10 q hq).1)))
        clear hown6 hgr6 hat6 hlt6 c0 c1 c2
        go_wp2_with fail
        go_roundw
        case rel => exact ⟨k, by omega, rfl, HO11, HB11⟩
        case measure => simp [intOf]
end Go.Proofs.Ytnnikeolgknfoaa

set_option linter.unusedSimpArgs false
set_option linter.unusedVariables false
namespace Go.Proofs.Ytnnikeolgknfoaa
open Go.RowKit Go.Shelf

/-- a row in a box -/
def RowIx (w : World) (b : Nat) (r : Rw) : Prop := ∃ (bA dA vA : Option Addr) (bc dc vc : Nat), RwAt w b r bA bc dA dc vA vc ∧ RwRow w w.heap.size r bA bc dA dc vA vc
theorem RowIx.later {w w' : World} {b : Nat} {r : Rw} (h : RowIx w b r) (hb : Below w.heap.size w w') : RowIx w' b r := by
  obtain ⟨bA, dA, vA, bc, dc, vc, h1, h2⟩ := h
  exact ⟨bA, dA, vA, bc, dc, vc, h1.later hb, h2.on hb⟩

theorem Rw.sum_ok {r : Rw} {a b : Nat} (h : r.askErr a b = 0) : r.sumS a b = r.span a b := by unfold Rw.sumS; rw [if_pos h]; rfl
theorem has_bd {r : Rw} (hr : r.ok) {f : Fc} (h : r.has f) : 0 ≤ f.i ∧ f.i ≤ 10 := by
  obtain ⟨h0, h1⟩ := h
  have h6 := hr.n6
  have h10 := hr.m10
  refine ⟨h0, ?_⟩
  split at h1 <;> omega

set_option maxRecDepth 100000 in
set_option maxHeartbeats 8000000 in
theorem turned_loop3 (r : Rw) (HOK : Hid r.ok) (rx ox : Nat) (pA : Option Addr) (m : Nat) (P : Nat → Nat × Nat) (hm36 : m ≤ 36) (HPP : Hid (∀ q, q < m → (P q).1 ≤ (P q).2 ∧ (P q).2 < r.n)) {u0 u1 u2 u3 u4 u5 u6 u10 u11 u12 u13 u14 u15 u16 u17 u18 u19 u20 u21 u22 u23 u24 u25 u26 u27 u28 u29 u30 u31 u32 u33 u34 u35 u36 u37 u38 u39 u40 u41 u42 u43 u44 u45 u46 u47 u48 u49 u50 u51 u52 u53 u54 u55 u56 u57 u58 u59 u60 u61 u62 u63 u64 u65 u66 u67 u68 u69 u70 u71 u72 u73 u74 u75 u76 u77 u78 u79 u80 u81 u82 u83 u84 u85 u86 u87 u88 u89 u90 u91 u92 u93 u94 u95 u96 u97 u98 u99 u100 u101 u102 u103 u104 u105 u106 u107 u111 u112 u113 u114 u115 u116 u117 u118 u119 u120 u121 u122 u123 u124 u125 u126 u127 u128 u129 u130 u131 u132 u133 u134 u135 u136 u137 u138 u139 u140 u141 u142 u143 u144 u145 u146 u147 u148 u149 u150 u151 u152 u153 u154 u155 u156 u157 u158 u159 u160 u161 u162 u163 u164 u165 u166 u167 u168 u169 u170 u171 u172 u173 u174 u175 u176 u177 u178 u179 u180 u181 u182 u183 u184 u185 u186 u187 u188 u189 u190 u191 u192 u193 u194 u195 u196 u197 u198 u199 u200 u201 u202 u203 u204 u205 u206 u207 u208 u209 u210 u211 u212 u213 u214 u215 u216 u217 u218 u219 u220 u221 u222 u223 u224 u225 u226 u227 u228 u229 u230 u231 u232 u233 u234 u235 u236 u237 u238 u239 u240 u241 u242 u243 u244 u245 u246 u247 u248 u249 u250 u251 u252 u253 u254 u255 u256 u257 u258 u259 u260 u261 u262 u263 u264 u265 u266 u267 u268 u269 u270 u271 u272 u273 u274 : Value} (pc : Nat) (w : World) (HPR : Hid (PrRow w w.heap.size pA m P))
    (HR : Hid (RowIx w rx r)) (HO : Hid (RowIx w ox r.mir))
    (Q : Exit → Act → World → Prop) (hK : ∀ {x4 x14 x15 x16 x17 x18 x19 x20 x21 x22 x23 x24 x25 x26 x27 x110 x111 x112 x113 x114 x115 x116 x117 x118 x119 x120 x121 x122 x123 x124 x125 x126 x127 x128 x129 x130 x131 x132 x133 x134 x135 x136 x137 x138 x139 x140 x141 x142 x143 x144 x145 x146 x147 x148 x149 x150 x151 x152 x153 x154 x155 x156 x157 x158 x159 x160 x161 x162 x163 x164 x165 x166 x167 x168 x169 x170 x171 x172 x173 x174 x175 x176 x177 x178 x179 x180 x181 x182 x183 x184 x185 x186 x187 x188 x189 x190 x191 x192 x193 x194 x195 x196 x197 x198 x199 x200 x201 x202 x203 x204 x205 x206 : Value} (w' : World), Hid (Below w.heap.size w w') → Q .normal ⟨(List.toArray (u0 :: u1 :: u2 :: u3 :: x4 :: u5 :: u6 :: (.pointer (some ⟨rx, 0, none⟩)) :: (.int .i64 (r.n : Int)) :: (.pointer (some ⟨ox, 0, none⟩)) :: u10 :: u11 :: u12 :: u13 :: x14 :: x15 :: x16 :: x17 :: x18 :: x19 :: x20 :: x21 :: x22 :: x23 :: x24 :: x25 :: x26 :: x27 :: u28 :: u29 :: u30 :: u31 :: u32 :: u33 :: u34 :: u35 :: u36 :: u37 :: u38 :: u39 :: u40 :: u41 :: u42 :: u43 :: u44 :: u45 :: u46 :: u47 :: u48 :: u49 :: u50 :: u51 :: u52 :: u53 :: u54 :: u55 :: u56 :: u57 :: u58 :: u59 :: u60 :: u61 :: u62 :: u63 :: u64 :: u65 :: u66 :: u67 :: u68 :: u69 :: u70 :: u71 :: u72 :: u73 :: u74 :: u75 :: u76 :: u77 :: u78 :: u79 :: u80 :: u81 :: u82 :: u83 :: u84 :: u85 :: u86 :: u87 :: u88 :: u89 :: u90 :: u91 :: u92 :: u93 :: u94 :: u95 :: u96 :: u97 :: u98 :: u99 :: u100 :: u101 :: u102 :: u103 :: u104 :: u105 :: u106 :: u107 :: (.slice pA m pc) :: (.int .i64 (m : Int)) :: x110 :: x111 :: x112 :: x113 :: x114 :: x115 :: x116 :: x117 :: x118 :: x119 :: x120 :: x121 :: x122 :: x123 :: x124 :: x125 :: x126 :: x127 :: x128 :: x129 :: x130 :: x131 :: x132 :: x133 :: x134 :: x135 :: x136 :: x137 :: x138 :: x139 :: x140 :: x141 :: x142 :: x143 :: x144 :: x145 :: x146 :: x147 :: x148 :: x149 :: x150 :: x151 :: x152 :: x153 :: x154 :: x155 :: x156 :: x157 :: x158 :: x159 :: x160 :: x161 :: x162 :: x163 :: x164 :: x165 :: x166 :: x167 :: x168 :: x169 :: x170 :: x171 :: x172 :: x173 :: x174 :: x175 :: x176 :: x177 :: x178 :: x179 :: x180 :: x181 :: x182 :: x183 :: x184 :: x185 :: x186 :: x187 :: x188 :: x189 :: x190 :: x191 :: x192 :: x193 :: x194 :: x195 :: x196 :: x197 :: x198 :: x199 :: x200 :: x201 :: x202 :: x203 :: x204 :: x205 :: x206 :: u207 :: u208 :: u209 :: u210 :: u211 :: u212 :: u213 :: u214 :: u215 :: u216 :: u217 :: u218 :: u219 :: u220 :: u221 :: u222 :: u223 :: u224 :: u225 :: u226 :: u227 :: u228 :: u229 :: u230 :: u231 :: u232 :: u233 :: u234 :: u235 :: u236 :: u237 :: u238 :: u239 :: u240 :: u241 :: u242 :: u243 :: u244 :: u245 :: u246 :: u247 :: u248 :: u249 :: u250 :: u251 :: u252 :: u253 :: u254 :: u255 :: u256 :: u257 :: u258 :: u259 :: u260 :: u261 :: u262 :: u263 :: u264 :: u265 :: u266 :: u267 :: u268 :: u269 :: u270 :: u271 :: u272 :: u273 :: u274 :: [])), []⟩ w') :
    Code.wp Try.prog (blkIn Try.f7 4) Q ⟨(List.toArray (u0 :: u1 :: u2 :: u3 :: u4 :: u5 :: u6 :: (.pointer (some ⟨rx, 0, none⟩)) :: (.int .i64 (r.n : Int)) :: (.pointer (some ⟨ox, 0, none⟩)) :: u10 :: u11 :: u12 :: u13 :: u14 :: u15 :: u16 :: u17 :: u18 :: u19 :: u20 :: u21 :: u22 :: u23 :: u24 :: u25 :: u26 :: u27 :: u28 :: u29 :: u30 :: u31 :: u32 :: u33 :: u34 :: u35 :: u36 :: u37 :: u38 :: u39 :: u40 :: u41 :: u42 :: u43 :: u44 :: u45 :: u46 :: u47 :: u48 :: u49 :: u50 :: u51 :: u52 :: u53 :: u54 :: u55 :: u56 :: u57 :: u58 :: u59 :: u60 :: u61 :: u62 :: u63 :: u64 :: u65 :: u66 :: u67 :: u68 :: u69 :: u70 :: u71 :: u72 :: u73 :: u74 :: u75 :: u76 :: u77 :: u78 :: u79 :: u80 :: u81 :: u82 :: u83 :: u84 :: u85 :: u86 :: u87 :: u88 :: u89 :: u90 :: u91 :: u92 :: u93 :: u94 :: u95 :: u96 :: u97 :: u98 :: u99 :: u100 :: u101 :: u102 :: u103 :: u104 :: u105 :: u106 :: u107 :: (.slice pA m pc) :: (.int .i64 (m : Int)) :: (.int .i64 0) :: u111 :: u112 :: u113 :: u114 :: u115 :: u116 :: u117 :: u118 :: u119 :: u120 :: u121 :: u122 :: u123 :: u124 :: u125 :: u126 :: u127 :: u128 :: u129 :: u130 :: u131 :: u132 :: u133 :: u134 :: u135 :: u136 :: u137 :: u138 :: u139 :: u140 :: u141 :: u142 :: u143 :: u144 :: u145 :: u146 :: u147 :: u148 :: u149 :: u150 :: u151 :: u152 :: u153 :: u154 :: u155 :: u156 :: u157 :: u158 :: u159 :: u160 :: u161 :: u162 :: u163 :: u164 :: u165 :: u166 :: u167 :: u168 :: u169 :: u170 :: u171 :: u172 :: u173 :: u174 :: u175 :: u176 :: u177 :: u178 :: u179 :: u180 :: u181 :: u182 :: u183 :: u184 :: u185 :: u186 :: u187 :: u188 :: u189 :: u190 :: u191 :: u192 :: u193 :: u194 :: u195 :: u196 :: u197 :: u198 :: u199 :: u200 :: u201 :: u202 :: u203 :: u204 :: u205 :: u206 :: u207 :: u208 :: u209 :: u210 :: u211 :: u212 :: u213 :: u214 :: u215 :: u216 :: u217 :: u218 :: u219 :: u220 :: u221 :: u222 :: u223 :: u224 :: u225 :: u226 :: u227 :: u228 :: u229 :: u230 :: u231 :: u232 :: u233 :: u234 :: u235 :: u236 :: u237 :: u238 :: u239 :: u240 :: u241 :: u242 :: u243 :: u244 :: u245 :: u246 :: u247 :: u248 :: u249 :: u250 :: u251 :: u252 :: u253 :: u254 :: u255 :: u256 :: u257 :: u258 :: u259 :: u260 :: u261 :: u262 :: u263 :: u264 :: u265 :: u266 :: u267 :: u268 :: u269 :: u270 :: u271 :: u272 :: u273 :: u274 :: [])), []⟩ w := by
  (conv => arg 2; whnf)
  have hn6 := HOK.out.n6
  have HMO := Lib.hid (Rw.mir_ok HOK.out)
  go_wp2_with fail
  go_loopw [110] (fun i wr => ∃ q : Nat, q ≤ m ∧ i = .int .i64 q ∧ Hid (Below w.heap.size w wr)) (fun i _ => m - (intOf i).toNat)
  case atStart => exact ⟨0, Nat.zero_le _, rfl, Lib.hid (Below.refl _ _)⟩
  case round =>
    obtain ⟨q, hq, rfl, HBw⟩ := hrel
    obtain ⟨wo, rfl⟩ : ∃ wo, wo = wr := ⟨_, rfl⟩
    have hsw := HBw.out.size
    by_cases hlt : q < m
    · have hq0 : (0 : Int) ≤ (q : Int) := by omega
      have hqn : (q : Int) < (m : Int) := by omega
      have eq1 : IntKind.i64.wrap ((q : Int) + 1) = (q : Int) + 1 := IntWalk.i64_in _ (by omega)
      obtain ⟨pb, hpA, hpl, p0, p1⟩ := (HPR.out.below HBw.out) q hlt
      obtain ⟨hab, hbn⟩ := HPP.out q hlt
      obtain ⟨⟨a, b⟩, hpq⟩ : ∃ x, x = P q := ⟨_, rfl⟩
      rw [← hpq] at p0 p1 hab hbn
      dsimp only at p0 p1 hab hbn
      subst hpA
      clear hpq
      obtain ⟨a', ha'⟩ : ∃ x : Nat, x = r.n - 1 - a := ⟨_, rfl⟩
      obtain ⟨b', hb'⟩ : ∃ x : Nat, x = r.n - 1 - b := ⟨_, rfl⟩
      have e1 : IntKind.i64.wrap ((r.n : Int) - 1) = (r.n : Int) - 1 := IntWalk.i64_in _ (by omega)
      have e2 : IntKind.i64.wrap ((r.n : Int) - 1 - (a : Int)) = (a' : Int) := (IntWalk.i64_in _ (by omega)).trans (by omega)
      have e3 : IntKind.i64.wrap ((r.n : Int) - 1 - (b : Int)) = (b' : Int) := (IntWalk.i64_in _ (by omega)).trans (by omega)
      have hmi := Rw.mir_ask HOK.out hab hbn
      rw [← ha', ← hb'] at hmi
      have HMI := Lib.hid hmi
      have HAB := Lib.hid (And.intro ha' hb')
      clear hmi ha' hb'
      go_upto_region 18 with fail
      refine wp_world (fun w' => N2c w' wo.heap.size a b ∧ Below wo.heap.size wo w' ∧ wo.heap.size + 1 ≤ w'.heap.size) ⟨⟨(by (repeat' refine And.intro ?_ ?_) <;> (repeat (first | with_reducible assumption | (simp; done) | (with_reducible first | refine Kd ?_ | refine Kn ?_ | refine Kb (by assumption) ?_) | ((with_reducible first | refine Kw ?_ ?_ | refine Fw ?_) <;> first | with_reducible rfl | (simp; done)) | (with_reducible first | refine Ka _ ?_ | refine Ks _ (by first | exact Nat.le_refl _ | omega | (simp; done) | (simp; omega)) ?_ | refine Fd ?_ | refine Fn ?_ | refine Fb (by assumption) (by first | exact Nat.le_refl _ | omega | (simp; done) | (simp; omega)) ?_ | refine Fa _ (by first | exact Nat.le_refl _ | omega | (simp; done) | (simp; omega)) ?_ | refine Fs _ ?_)))), (by (repeat' refine And.intro ?_ ?_) <;> (repeat (first | with_reducible assumption | (simp; done) | (with_reducible first | refine Kd ?_ | refine Kn ?_ | refine Kb (by assumption) ?_) | ((with_reducible first | refine Kw ?_ ?_ | refine Fw ?_) <;> first | with_reducible rfl | (simp; done)) | (with_reducible first | refine Ka _ ?_ | refine Ks _ (by first | exact Nat.le_refl _ | omega | (simp; done) | (simp; omega)) ?_ | refine Fd ?_ | refine Fn ?_ | refine Fb (by assumption) (by first | exact Nat.le_refl _ | omega | (simp; done) | (simp; omega)) ?_ | refine Fa _ (by first | exact Nat.le_refl _ | omega | (simp; done) | (simp; omega)) ?_ | refine Fs _ ?_))))⟩, (by repeat (first | (with_reducible first | exact Below.refl _ _ | assumption | refine Below.drew ?_) | ((with_reducible first | refine Lc ?_ ?_ _ | refine Ls ?_ ?_ _ | refine Lv (by assumption) ?_ ?_); · first | exact Nat.le_refl _ | omega | (dsimp only; omega) | (simp only [World.size_alloc, World.size_drew, World.heap_drewN]; omega) | (simp; omega)))), by simp⟩ ?_
      rintro w9 ⟨hp9, hb9, hs9⟩
      have HB9 := Lib.hid (HBw.out.trans (hb9.mono hsw))
      have hsw9 := HB9.out.size
      have q0 := cell_regrown hp9.1
      have q1 := cell_regrown hp9.2
      clear hp9 hb9 p0 p1 hs9
      refine region_qbw (by kernel_rfl) (by kernel_rfl) ?_
      repeat (first | go_big_quiet_step (fail) | quiet_step (fail))
      refine wpQuiet_nil ?_; intro wq hbq
      have HB10 := Lib.hid (HB9.out.trans (hbq.mono hsw9))
      clear q0 q1 hbq HB9
      have hsw10 := HB10.out.size
      obtain ⟨bA, dA, vA, bc, dc, vc, ⟨c0, c1, c2⟩, hr⟩ := HR.out.later HB10.out
      go_wp2_with fail
      refine (Sum_any r (a : Int) (b : Int) bA dA vA bc dc vc _ hr).mono ?_
      rintro e w11 ⟨rfl, hb11⟩
      obtain ⟨⟨z1, z2⟩, hz⟩ : ∃ x, x = r.sumS a b := ⟨_, rfl⟩
      obtain ⟨er, her⟩ : ∃ x, x = r.askErr a b := ⟨_, rfl⟩
      rw [← hz, ← her]
      rw [← hz, ← her] at HMI
      have HZ := Lib.hid (And.intro hz her)
      dsimp only
      have HB11 := Lib.hid (HB10.out.trans (hb11.mono hsw10))
      have hsw11 := HB11.out.size
      clear hz her hb11 c0 c1 c2 hr HB10 hsw10
      go_upto_region 20 with fail
      refine wp_world (fun w' => N2c w' w11.heap.size z1 z2 ∧ Below w11.heap.size w11 w' ∧ w11.heap.size + 1 ≤ w'.heap.size) ⟨⟨(by (repeat' refine And.intro ?_ ?_) <;> (repeat (first | with_reducible assumption | (simp; done) | (with_reducible first | refine Kd ?_ | refine Kn ?_ | refine Kb (by assumption) ?_) | ((with_reducible first | refine Kw ?_ ?_ | refine Fw ?_) <;> first | with_reducible rfl | (simp; done)) | (with_reducible first | refine Ka _ ?_ | refine Ks _ (by first | exact Nat.le_refl _ | omega | (simp; done) | (simp; omega)) ?_ | refine Fd ?_ | refine Fn ?_ | refine Fb (by assumption) (by first | exact Nat.le_refl _ | omega | (simp; done) | (simp; omega)) ?_ | refine Fa _ (by first | exact Nat.le_refl _ | omega | (simp; done) | (simp; omega)) ?_ | refine Fs _ ?_)))), (by (repeat' refine And.intro ?_ ?_) <;> (repeat (first | with_reducible assumption | (simp; done) | (with_reducible first | refine Kd ?_ | refine Kn ?_ | refine Kb (by assumption) ?_) | ((with_reducible first | refine Kw ?_ ?_ | refine Fw ?_) <;> first | with_reducible rfl | (simp; done)) | (with_reducible first | refine Ka _ ?_ | refine Ks _ (by first | exact Nat.le_refl _ | omega | (simp; done) | (simp; omega)) ?_ | refine Fd ?_ | refine Fn ?_ | refine Fb (by assumption) (by first | exact Nat.le_refl _ | omega | (simp; done) | (simp; omega)) ?_ | refine Fa _ (by first | exact Nat.le_refl _ | omega | (simp; done) | (simp; omega)) ?_ | refine Fs _ ?_))))⟩, (by repeat (first | (with_reducible first | exact Below.refl _ _ | assumption | refine Below.drew ?_) | ((with_reducible first | refine Lc ?_ ?_ _ | refine Ls ?_ ?_ _ | refine Lv (by assumption) ?_ ?_); · first | exact Nat.le_refl _ | omega | (dsimp only; omega) | (simp only [World.size_alloc, World.size_drew, World.heap_drewN]; omega) | (simp; omega)))), by simp⟩ ?_
      rintro w12 ⟨hw12, hb12, hs12⟩
      have HW12 := Lib.hid hw12
      have HB12 := Lib.hid (HB11.out.trans (hb12.mono hsw11))
      have hsw12 := HB12.out.size
      obtain ⟨sx, hsx⟩ : ∃ x, x = w11.heap.size := ⟨_, rfl⟩
      rw [← hsx] at HW12
      rw [← hsx]
      clear hw12 hb12 hs12 hsx HB11 hsw11
      obtain ⟨obA, odA, ovA, obc, odc, ovc, ⟨c0, c1, c2⟩, hr⟩ := HO.out.later HB12.out
      go_wp2_with fail
      refine (Sum_any r.mir (b' : Int) (a' : Int) obA odA ovA obc odc ovc _ hr).mono ?_
      rintro e w13 ⟨rfl, hb13⟩
      rw [HMI.out.1, HMI.out.2]
      dsimp only
      have HB13 := Lib.hid (HB12.out.trans (hb13.mono hsw12))
      have HW13 := Lib.hid (HW12.out.later hb13)
      have hsw13 := HB13.out.size
      clear hb13 c0 c1 c2 hr HB12 HW12 hsw12
      go_upto_region 21 with fail
      refine wp_world (fun w' => N2c w' w13.heap.size z1 z2 ∧ Below w13.heap.size w13 w' ∧ w13.heap.size + 1 ≤ w'.heap.size) ⟨⟨(by (repeat' refine And.intro ?_ ?_) <;> (repeat (first | with_reducible assumption | (simp; done) | (with_reducible first | refine Kd ?_ | refine Kn ?_ | refine Kb (by assumption) ?_) | ((with_reducible first | refine Kw ?_ ?_ | refine Fw ?_) <;> first | with_reducible rfl | (simp; done)) | (with_reducible first | refine Ka _ ?_ | refine Ks _ (by first | exact Nat.le_refl _ | omega | (simp; done) | (simp; omega)) ?_ | refine Fd ?_ | refine Fn ?_ | refine Fb (by assumption) (by first | exact Nat.le_refl _ | omega | (simp; done) | (simp; omega)) ?_ | refine Fa _ (by first | exact Nat.le_refl _ | omega | (simp; done) | (simp; omega)) ?_ | refine Fs _ ?_)))), (by (repeat' refine And.intro ?_ ?_) <;> (repeat (first | with_reducible assumption | (simp; done) | (with_reducible first | refine Kd ?_ | refine Kn ?_ | refine Kb (by assumption) ?_) | ((with_reducible first | refine Kw ?_ ?_ | refine Fw ?_) <;> first | with_reducible rfl | (simp; done)) | (with_reducible first | refine Ka _ ?_ | refine Ks _ (by first | exact Nat.le_refl _ | omega | (simp; done) | (simp; omega)) ?_ | refine Fd ?_ | refine Fn ?_ | refine Fb (by assumption) (by first | exact Nat.le_refl _ | omega | (simp; done) | (simp; omega)) ?_ | refine Fa _ (by first | exact Nat.le_refl _ | omega | (simp; done) | (simp; omega)) ?_ | refine Fs _ ?_))))⟩, (by repeat (first | (with_reducible first | exact Below.refl _ _ | assumption | refine Below.drew ?_) | ((with_reducible first | refine Lc ?_ ?_ _ | refine Ls ?_ ?_ _ | refine Lv (by assumption) ?_ ?_); · first | exact Nat.le_refl _ | omega | (dsimp only; omega) | (simp only [World.size_alloc, World.size_drew, World.heap_drewN]; omega) | (simp; omega)))), by simp⟩ ?_
      rintro w14 ⟨hw14, hb14, hs14⟩
      have HY14 := Lib.hid hw14
      have HW14 := Lib.hid (HW13.out.later hb14)
      have HB14 := Lib.hid (HB13.out.trans (hb14.mono hsw13))
      have hsw14 := HB14.out.size
      obtain ⟨tx, htx⟩ : ∃ x, x = w13.heap.size := ⟨_, rfl⟩
      rw [← htx] at HY14
      rw [← htx]
      clear hw14 hb14 hs14 htx HB13 HW13 hsw13
      obtain ⟨bA, dA, vA, bc, dc, vc, ⟨c0, c1, c2⟩, hr⟩ := HR.out.later HB14.out
      go_wp2_with fail
      refine (Why_any r (a : Int) (b : Int) true bA dA vA bc dc vc _ hr).mono ?_
      rintro e w15 (⟨h0, l, wA, wc, rfl, how, hch, hsum, hlen, hb15⟩ | ⟨h0, rfl, hb15⟩)
      · have h1 : er = 0 := HZ.out.2.trans h0
        obtain ⟨wA', wc', he, hof, hwc⟩ := ownFc_of how rfl
        injection he with he1 he2 he3
        subst he1 he3
        have HFR := Lib.hid hof.row
        have hww : waysR (a : Int) (b : Int) true = ((a : Int), (b : Int) + 1) := rfl
        rw [hww] at hch hsum
        dsimp only at hch hsum
        rw [Int.toNat_natCast, show ((b : Int) + 1).toNat = b + 1 by omega] at hch hsum
        have HCH := Lib.hid hch
        have hz2 : z2 = wsum r l := by
          have hz := HZ.out.1
          rw [Rw.sum_ok h0] at hz
          have h2 := congrArg Sp.b hz
          rw [hsum]
          exact h2
        have HZ2 := Lib.hid hz2
        have HB15 := Lib.hid (HB14.out.trans (hb15.mono hsw14))
        have HW15 := Lib.hid (HW14.out.later hb15)
        have HY15 := Lib.hid (HY14.out.later hb15)
        have hsw15 := HB15.out.size
        have hl6 : l.length ≤ 6 := by omega
        have el : IntKind.i64.wrap ((l.length : Int) - 1) = (l.length : Int) - 1 := IntWalk.i64_in _ (by omega)
        obtain ⟨c0, c1⟩ := HW15.out
        obtain ⟨d0, d1⟩ := HY15.out
        subst h1
        clear how hof hch hsum hz2 hb15 h0 he2 hr HB14 HW14 HY14 hsw14 hww
        go_upto_block 6 with fail
        refine turned_loop4 r.n hn6 l hl6 (Lib.hid (fun f hf => has_bd HOK.out (Chain.all HCH.out f hf))) _ _ hwc w15 HFR _ ?_
        intro x24 x25 x163 x164 x165 x166 x167 x168 x169 x170 x171 x172 x173 x174 x175 x176 x177 x178 x179 x180 x181 x182 x183 v w16 HVB
        obtain ⟨kA, kc, rfl, hok, hkc⟩ := ownFc_of HVB.out.1 (by rw [backL_len])
        have HFK := Lib.hid hok.row
        have HB16 := Lib.hid (HB15.out.trans (HVB.out.2.mono hsw15))
        have HW16 := Lib.hid (HW15.out.later HVB.out.2)
        have hsw16 := HB16.out.size
        have hab' := HAB.out
        have hba : b' ≤ a' := by omega
        have han : a' < r.mir.n := by show a' < r.n; omega
        have hcm := (Chain.mir HOK.out (show a ≤ r.n by omega) (show b + 1 ≤ r.n by omega) HCH.out)
        have hsh : r.mir.showsR (b' : Int) (a' : Int) true l.length (fun k => (backL r.n l).getD k fc0) = (z2, 0) := by
          have h := shows_chain HMO.out (P := fun k => (backL r.n l).getD k fc0) (l := backL r.n l) hba han (fun j _ => rfl) (by
            rw [show b' = r.n - (b + 1) by omega, show a' + 1 = r.n - a by omega]
            exact hcm.1) (by rw [backL_len]; omega)
          rw [backL_len, hcm.2, ← HZ2.out] at h
          exact h
        have HSH := Lib.hid hsh
        have hz1 : (z2 != z2) = false := by simp
        clear hok hkc hab' hcm hsh HVB c0 c1 d0 d1 HB15 HW15 HY15 hsw15
        obtain ⟨obA, odA, ovA, obc, odc, ovc, ⟨c0, c1, c2⟩, hr⟩ := HO.out.later HB16.out
        obtain ⟨d0, d1⟩ := HW16.out
        go_wp2_with fail
        refine (Shows_any r.mir (b' : Int) (a' : Int) true kA l.length kc (fun k => (backL r.n l).getD k fc0) obA odA ovA obc odc ovc _ hr HFK.out (by omega)).mono ?_
        rintro e w17 ⟨rfl, hb17⟩
        rw [HSH.out]
        have HB17 := Lib.hid (HB16.out.trans (hb17.mono hsw16))
        have HW17 := Lib.hid (HW16.out.later hb17)
        clear hb17 c0 c1 c2 d0 d1 hr HB16 HW16 hsw16
        obtain ⟨d0, d1⟩ := HW17.out
        go_wp2_with fail
        go_roundw
        case rel => exact ⟨q + 1, by omega, by go_num, HB17⟩
        case measure => simp [intOf]; omega
      · rw [← HZ.out.2] at h0 ⊢
        have hne : (er != 0) = true := by simpa using h0
        have hee : (er != er) = false := by simp
        have HB15 := Lib.hid (HB14.out.trans (hb15.mono hsw14))
        obtain ⟨d0, d1⟩ := HW14.out.later hb15
        obtain ⟨y0, y1⟩ := HY14.out.later hb15
        clear hb15 h0 hr HB14 HW14 HY14 hsw14 c0 c1 c2
        go_wp2_with fail
        go_roundw
        case rel => exact ⟨q + 1, by omega, by go_num, HB15⟩
        case measure => simp [intOf]; omega
    · obtain rfl : q = m := by omega
      have hge : ¬ (q : Int) < (q : Int) := by omega
      go_wp2_with fail
      all_goals exact HBw
end Go.Proofs.Ytnnikeolgknfoaa
