/- LotSold: the joined statement. -/
import Derived.Test.YtegmomappbehcaaPzn
import Derived.Test.YtegmomappbehcaaRows
import Derived.Test.YtegmomappbehcaaPo
import Derived.Test.YtegmomappbehcaaPzm
set_option linter.unusedSimpArgs false
set_option linter.unusedVariables false
namespace Go.Proofs.Ytegmomappbehcaa
open Go.RowKit Go.Shelf

def inBlk : Code → Code
  | .block _ b => b
  | c => c
theorem total_eq (A : Option Addr) (n c : Nat) (X : Nat → Int) (s : Int) (W : World) (hl : IntRow W W.heap.size A n X) (hn : n ≤ 1000) (hx : ∀ k, k < n → -100 ≤ X k ∧ X k ≤ 100) (hs : sumN X n = s) :
    Calls Try.prog 41 #[.slice A n c] W fun e W' => e = .returned (.int .i64 s) ∧ Below W.heap.size W W' := hs ▸ total_any A n c X W hl hn hx
theorem sure_has {st : St} (hst : st.ok) {x : Bag} (hx : x.in_ st.all) : ∀ k, k < st.m → ((0 ≤ st.sureI x ∧ st.sureI x ≤ (k : Int)) ↔ (0 < x.size ∧ 100 * st.hi x ≤ (st.G k).foul * x.size)) := fun k hk => by
  rw [sure_fits hst hk]
  unfold St.has
  simp only [Bool.and_eq_true, decide_eq_true_iff]
theorem sure_brings {st : St} {x : Bag} : (0 ≤ st.sureI x → ∃ i : Nat, st.sureI x = (i : Int) ∧ i < st.m ∧ st.brings x = x.size * (st.G i).price) ∧ (st.sureI x < 0 → st.brings x = 0 ∧ st.sureI x = -1) := by
  unfold St.sureI St.brings St.price
  by_cases h : st.first x < st.m
  · rw [if_pos h, if_pos h]
    exact ⟨fun _ => ⟨_, rfl, h, rfl⟩, fun h2 => by omega⟩
  · rw [if_neg h, if_neg h]
    exact ⟨fun h2 => by omega, fun _ => ⟨Int.mul_zero _, rfl⟩⟩

set_option maxRecDepth 100000 in
set_option maxHeartbeats 8000000 in
theorem sold_tail (W : World) (B qb lo : Nat) (st : St) (bx : Nat) (pA gA : Option Addr) (pc gc : Nat) (tA : Option Addr) (tn tc : Nat) (rA : Option Addr) (R : Nat → Int) (lA : Option Addr) (X : Nat → Int) (bs : Nat) (clo chi : Int) (rc lc : Nat) (sz sv br : Int) (HST : Hid st.ok) (hn : 1 ≤ st.n ∧ st.n ≤ 4) (hm : 1 ≤ st.m ∧ st.m ≤ 3) (hln2 : tn ≤ 9223372036854775807) (HX : Hid (∀ k, k < st.n → 0 ≤ X k ∧ X k ≤ (st.P k).s)) (HA : Hid (st.askErr st.n X = 0)) (HRR : Hid (∀ k, k < st.n → (st.P k).f ≤ R k ∧ R k ≤ (st.P k).hi)) (HLO : Hid (st.lo (bagOf X st.n) = clo)) (HHI : Hid (st.hi (bagOf X st.n) = chi)) (hszb : 0 ≤ sz ∧ sz ≤ 24) (hhib : 0 ≤ chi ∧ chi ≤ 24) (hlob : 0 ≤ clo ∧ clo ≤ 24)
    (HSH : Hid (∀ k, k < st.m → ((0 ≤ sv ∧ sv ≤ (k : Int)) ↔ (0 < sz ∧ 100 * chi ≤ (st.G k).foul * sz)))) (HSB : Hid ((0 ≤ sv → ∃ i : Nat, sv = (i : Int) ∧ i < st.m ∧ br = sz * (st.G i).price) ∧ (sv < 0 → br = 0 ∧ sv = -1))) (HBR : Hid (0 ≤ br ∧ br ≤ 2400))
    {u0 u1 u2 u3 u4 u11 u13 u15 u16 u17 u18 u19 u20 u21 u22 u23 u24 u25 u26 u27 u28 u29 u30 u31 u32 u33 u34 u35 u36 u37 u38 u39 u40 u41 u42 u43 u44 u45 u46 u47 u48 u49 u50 u51 u52 u53 u54 u55 u56 u57 u58 u59 u60 u61 u62 u63 u64 u65 u66 u67 u68 u69 u70 u71 u72 u73 u74 u75 u76 u77 u78 u79 u80 u81 u82 u83 u84 u85 u86 u87 u88 u89 u90 u91 u92 u93 u94 u95 u96 u97 u98 u99 u100 u101 u102 u103 u104 u105 u106 u107 u108 u109 u110 u111 u112 u113 u114 u115 u116 u117 u118 u119 u120 u121 u122 u123 u124 u125 u126 u127 u128 u129 u130 u131 u132 u133 u134 u135 u136 u137 u138 u139 u140 u141 u142 u143 u144 u145 u146 u147 u148 u149 u150 u151 u152 u153 u154 u155 u156 u157 u158 u159 u160 u161 u162 u163 u164 u165 u166 u167 u168 u169 u170 u171 u172 u173 u174 u175 u176 u177 u178 u179 u180 u181 u182 u183 u184 u185 u186 u187 u188 u189 u190 u191 u192 u193 u194 u195 u196 u197 u198 u199 u200 u201 u202 u203 u204 u205 u206 u207 u208 u209 u210 u211 u212 u213 u214 u215 u216 u217 u218 u219 u220 u221 u222 u223 u224 u225 u226 u227 u228 u229 u230 u231 u232 u233 u234 u235 u236 u237 u238 u239 u240 u241 u242 u243 u244 u245 u246 u247 u248 u249 u250 u251 u252 u253 u254 u255 u256 u257 u258 u259 u260 u261 u262 u263 u264 u265 u266 u267 : Value} (wc : World) (Hc : Hid (SoAt W wc B qb lo st bx pA gA pc gc tA tn tc rA R lA X bs clo chi))
    (Q : Exit → Act → World → Prop) (hQ : ∀ {x4 x11 x13 x14 x15 x16 x17 x18 x19 x20 x21 x22 x23 x24 x25 x26 x27 x28 x29 x30 x31 x32 x33 x34 x35 x48 x49 x50 x51 x52 x53 x54 x55 x56 x57 x58 x59 x60 x61 x62 x63 x64 x65 x66 x67 x68 x69 x70 x71 x72 x73 x74 x75 x76 x77 x78 x79 x80 x81 x82 x83 x84 x85 x86 x87 x88 x89 x90 x91 x92 x93 x94 x95 x96 x97 x98 x99 x100 x101 x102 x103 x104 x105 x106 x107 x108 x109 x110 x111 x112 x113 x114 x115 x116 x117 x118 x119 x120 x121 x122 x123 x124 x125 x126 x127 x128 x129 x130 x131 x132 x133 x134 x135 x136 x137 x138 x139 x140 x141 x142 x143 x144 x145 x146 x147 x148 x149 x150 x151 x152 x153 x154 x155 x156 x157 x158 x159 x160 x161 x162 x163 x164 x165 x166 x167 x168 x169 x170 x171 x172 x173 x174 x175 x176 x177 x178 x179 x180 x181 x182 x183 x184 x185 x186 x187 x188 x189 x190 x191 x192 x193 x194 x195 x196 x197 x198 x199 x200 x201 x202 x203 x204 x205 x206 x207 x208 x209 x210 x211 x212 x213 x214 x215 x216 x217 x218 x219 x220 x221 x222 x223 x224 x225 x226 x227 x228 x229 x230 x231 x232 x233 x234 x235 x236 x237 x238 x239 x240 x241 x242 x243 x244 x245 x246 x247 x248 x249 x250 x251 x252 x253 x254 x255 x256 x257 x258 x259 x260 x261 x262 x263 x264 x265 x266 : Value} (w' : World), Hid (SoAt W w' B qb lo st bx pA gA pc gc tA tn tc rA R lA X bs clo chi) → Q .normal ⟨(List.toArray (u0 :: u1 :: u2 :: u3 :: x4 :: (.pointer (some ⟨bx, 0, none⟩)) :: (.slice rA st.n rc) :: (.pointer (some ⟨qb, 0, none⟩)) :: (.slice lA st.n lc) :: (.int .i64 sz) :: (.pointer (some ⟨bs, 0, none⟩)) :: x11 :: (.int .i64 sv) :: x13 :: x14 :: x15 :: x16 :: x17 :: x18 :: x19 :: x20 :: x21 :: x22 :: x23 :: x24 :: x25 :: x26 :: x27 :: x28 :: x29 :: x30 :: x31 :: x32 :: x33 :: x34 :: x35 :: u36 :: u37 :: u38 :: u39 :: u40 :: u41 :: u42 :: u43 :: u44 :: u45 :: u46 :: u47 :: x48 :: x49 :: x50 :: x51 :: x52 :: x53 :: x54 :: x55 :: x56 :: x57 :: x58 :: x59 :: x60 :: x61 :: x62 :: x63 :: x64 :: x65 :: x66 :: x67 :: x68 :: x69 :: x70 :: x71 :: x72 :: x73 :: x74 :: x75 :: x76 :: x77 :: x78 :: x79 :: x80 :: x81 :: x82 :: x83 :: x84 :: x85 :: x86 :: x87 :: x88 :: x89 :: x90 :: x91 :: x92 :: x93 :: x94 :: x95 :: x96 :: x97 :: x98 :: x99 :: x100 :: x101 :: x102 :: x103 :: x104 :: x105 :: x106 :: x107 :: x108 :: x109 :: x110 :: x111 :: x112 :: x113 :: x114 :: x115 :: x116 :: x117 :: x118 :: x119 :: x120 :: x121 :: x122 :: x123 :: x124 :: x125 :: x126 :: x127 :: x128 :: x129 :: x130 :: x131 :: x132 :: x133 :: x134 :: x135 :: x136 :: x137 :: x138 :: x139 :: x140 :: x141 :: x142 :: x143 :: x144 :: x145 :: x146 :: x147 :: x148 :: x149 :: x150 :: x151 :: x152 :: x153 :: x154 :: x155 :: x156 :: x157 :: x158 :: x159 :: x160 :: x161 :: x162 :: x163 :: x164 :: x165 :: x166 :: x167 :: x168 :: x169 :: x170 :: x171 :: x172 :: x173 :: x174 :: x175 :: x176 :: x177 :: x178 :: x179 :: x180 :: x181 :: x182 :: x183 :: x184 :: x185 :: x186 :: x187 :: x188 :: x189 :: x190 :: x191 :: x192 :: x193 :: x194 :: x195 :: x196 :: x197 :: x198 :: x199 :: x200 :: x201 :: x202 :: x203 :: x204 :: x205 :: x206 :: x207 :: x208 :: x209 :: x210 :: x211 :: x212 :: x213 :: x214 :: x215 :: x216 :: x217 :: x218 :: x219 :: x220 :: x221 :: x222 :: x223 :: x224 :: x225 :: x226 :: x227 :: x228 :: x229 :: x230 :: x231 :: x232 :: x233 :: x234 :: x235 :: x236 :: x237 :: x238 :: x239 :: x240 :: x241 :: x242 :: x243 :: x244 :: x245 :: x246 :: x247 :: x248 :: x249 :: x250 :: x251 :: x252 :: x253 :: x254 :: x255 :: x256 :: x257 :: x258 :: x259 :: x260 :: x261 :: x262 :: x263 :: x264 :: x265 :: x266 :: u267 :: [])), []⟩ w')
    (K : Act → World → Prop) (hK : ∀ a w, Code.wp Try.prog (tlRg (fromRg 16 (inBlk (blkIn Try.f15 1)))) Q a w → K a w) :
    Code.wp Try.prog (hdRg (fromRg 16 (inBlk (blkIn Try.f15 1)))) (Exit.then K Q) ⟨(List.toArray (u0 :: u1 :: u2 :: u3 :: u4 :: (.pointer (some ⟨bx, 0, none⟩)) :: (.slice rA st.n rc) :: (.pointer (some ⟨qb, 0, none⟩)) :: (.slice lA st.n lc) :: (.int .i64 sz) :: (.pointer (some ⟨bs, 0, none⟩)) :: u11 :: (.int .i64 sv) :: u13 :: (.int .i64 br) :: u15 :: u16 :: u17 :: u18 :: u19 :: u20 :: u21 :: u22 :: u23 :: u24 :: u25 :: u26 :: u27 :: u28 :: u29 :: u30 :: u31 :: u32 :: u33 :: u34 :: u35 :: u36 :: u37 :: u38 :: u39 :: u40 :: u41 :: u42 :: u43 :: u44 :: u45 :: u46 :: u47 :: u48 :: u49 :: u50 :: u51 :: u52 :: u53 :: u54 :: u55 :: u56 :: u57 :: u58 :: u59 :: u60 :: u61 :: u62 :: u63 :: u64 :: u65 :: u66 :: u67 :: u68 :: u69 :: u70 :: u71 :: u72 :: u73 :: u74 :: u75 :: u76 :: u77 :: u78 :: u79 :: u80 :: u81 :: u82 :: u83 :: u84 :: u85 :: u86 :: u87 :: u88 :: u89 :: u90 :: u91 :: u92 :: u93 :: u94 :: u95 :: u96 :: u97 :: u98 :: u99 :: u100 :: u101 :: u102 :: u103 :: u104 :: u105 :: u106 :: u107 :: u108 :: u109 :: u110 :: u111 :: u112 :: u113 :: u114 :: u115 :: u116 :: u117 :: u118 :: u119 :: u120 :: u121 :: u122 :: u123 :: u124 :: u125 :: u126 :: u127 :: u128 :: u129 :: u130 :: u131 :: u132 :: u133 :: u134 :: u135 :: u136 :: u137 :: u138 :: u139 :: u140 :: u141 :: u142 :: u143 :: u144 :: u145 :: u146 :: u147 :: u148 :: u149 :: u150 :: u151 :: u152 :: u153 :: u154 :: u155 :: u156 :: u157 :: u158 :: u159 :: u160 :: u161 :: u162 :: u163 :: u164 :: u165 :: u166 :: u167 :: u168 :: u169 :: u170 :: u171 :: u172 :: u173 :: u174 :: u175 :: u176 :: u177 :: u178 :: u179 :: u180 :: u181 :: u182 :: u183 :: u184 :: u185 :: u186 :: u187 :: u188 :: u189 :: u190 :: u191 :: u192 :: u193 :: u194 :: u195 :: u196 :: u197 :: u198 :: u199 :: u200 :: u201 :: u202 :: u203 :: u204 :: u205 :: u206 :: u207 :: u208 :: u209 :: u210 :: u211 :: u212 :: u213 :: u214 :: u215 :: u216 :: u217 :: u218 :: u219 :: u220 :: u221 :: u222 :: u223 :: u224 :: u225 :: u226 :: u227 :: u228 :: u229 :: u230 :: u231 :: u232 :: u233 :: u234 :: u235 :: u236 :: u237 :: u238 :: u239 :: u240 :: u241 :: u242 :: u243 :: u244 :: u245 :: u246 :: u247 :: u248 :: u249 :: u250 :: u251 :: u252 :: u253 :: u254 :: u255 :: u256 :: u257 :: u258 :: u259 :: u260 :: u261 :: u262 :: u263 :: u264 :: u265 :: u266 :: u267 :: [])), []⟩ wc := by
  (conv => arg 2; whnf)
  (obtain ⟨y, hy⟩ : ∃ y, tlRg (fromRg 16 (inBlk (blkIn Try.f15 1))) = y := ⟨_, rfl⟩)
  rw [hy] at hK
  (conv at hy => lhs; whnf)
  subst hy
  have Hd := Hc
  clear Hc
  go_upto_if 128 with fail
  go_cut [21] from 48 to 266 (fun v wx => v = .int .i64 br ∧ Hid (SoAt W wx B qb lo st bx pA gA pc gc tA tn tc rA R lA X bs clo chi))
  case rest =>
    obtain ⟨rfl, He⟩ := hcut
    clear Hd
    have hbb : (br != br) = false := by simp
    have HVZ : Hid (sz = 0 → sv = -1) := Lib.hid (fun h => by
      have h1 := HSB.out
      by_cases hv : 0 ≤ sv
      · obtain ⟨i, e1, e2, _⟩ := h1.1 hv
        have h2 := (HSH.out i e2).1 ⟨hv, by omega⟩
        omega
      · exact (h1.2 (by omega)).2)
    have HSV : Hid (0 ≤ sv → ∃ i : Nat, sv = (i : Int) ∧ i < st.m ∧ 100 * chi ≤ (st.G i).foul * sz) := Lib.hid (fun hv => by
      obtain ⟨i, e1, e2, _⟩ := HSB.out.1 hv
      exact ⟨i, e1, e2, ((HSH.out i e2).1 ⟨hv, by omega⟩).2⟩)
    go_upto_region 19 with fail
    go_cut [147] from 48 to 266 (fun v wx => v = .bool false ∧ Hid (SoAt W wx B qb lo st bx pA gA pc gc tA tn tc rA R lA X bs clo chi))
    case first =>
      by_cases hz : sz = 0
      · have hz1 : (sz == 0) = true := by simpa using hz
        have hv1 : (sv != -1) = false := by rw [HVZ.out hz]; rfl
        clear hz
        go_wp2_with fail
        go_meet
        exact ⟨by first | rfl | exact congrArg Value.bool (by simp [hbb, hz1, hv1]), He⟩
      · have hz1 : (sz == 0) = false := by simpa using hz
        clear hz
        go_wp2_with fail
        go_meet
        exact ⟨by first | rfl | exact congrArg Value.bool (by simp [hbb, hz1]), He⟩
    case rest =>
      obtain ⟨rfl, Hf⟩ := hcut
      clear He hbb HVZ
      obtain ⟨s0, s1, s2⟩ := Hf.out.m.s
      go_upto_block 2 with fail
      refine sold_loop2 W B qb lo st bx pA gA pc gc tA tn tc rA R lA X bs clo chi sz sv HST hm hszb hhib HSH _ Hf _ (fun w' Hg => ?_)
      clear Hf
      go_upto_block 4 with fail
      refine sold_loop3 W B qb lo st bx pA gA pc gc tA tn tc rA R lA X bs clo chi rc lc sz sv HST hn hm hln2 HX HA HRR HLO HHI hszb hhib hlob.1 HSV _ Hg _ (fun w' Hh => ?_)
      clear Hg
      exact hQ _ Hh
  by_cases hv : 0 ≤ sv
  · obtain ⟨i, e1, e2, e3⟩ := HSB.out.1 hv
    subst e1
    have hii : (i : Int) < (st.m : Int) := by omega
    obtain ⟨gb, go, hgA, hgl, g0, g1⟩ := Hd.out.m.r.g i e2
    subst hgA
    obtain ⟨pi, hpi⟩ : ∃ q, (st.G i).price = q := ⟨_, rfl⟩
    rw [hpi] at e3 g1
    have hbr := HBR.out
    have ew : IntKind.i64.wrap (sz * pi) = br := by rw [e3]; exact IntWalk.i64_in _ (by rw [← e3]; omega)
    obtain ⟨s0, s1, s2⟩ := Hd.out.m.s
    clear hpi e3 hbr g0
    go_wp2_with fail
    go_meet
    exact ⟨rfl, Hd⟩
  · have hb0 := (HSB.out.2 (by omega)).1
    have HB0 := Lib.hid hb0
    clear hb0
    go_wp2_with fail
    go_meet
    exact ⟨by rw [HB0.out], Hd⟩
end Go.Proofs.Ytegmomappbehcaa

set_option linter.unusedSimpArgs false
set_option linter.unusedVariables false
namespace Go.Proofs.Ytegmomappbehcaa
open Go.RowKit Go.Shelf

set_option maxRecDepth 100000 in
set_option maxHeartbeats 8000000 in
theorem sold_law (nA : Option Addr) (nn nc : Nat) (tA : Option Addr) (tn tc : Nat) (W : World) (hby : ByIn W W.heap.size nA nn) (hln : nn ≤ 9223372036854775807) (hby2 : ByIn W W.heap.size tA tn) (hln2 : tn ≤ 9223372036854775807) :
    Calls Try.prog 15 #[.slice nA nn nc, .slice tA tn tc] W fun e W' => e = .returned (.bool true) ∧ Below W.heap.size W W' := by
  have HBY := Lib.hid hby
  have HBY2 := Lib.hid hby2
  clear hby hby2
  go_enter Try.func15, Try.ntmps15
  go_wp2_with fail
  refine (fill_any W.heap.size nA nn nc _ (Nat.le_refl _) HBY.out).mono ?_
  rintro e w1 ⟨cb, rfl, hcb, hb1, hch⟩
  have HB1 := Lib.hid hb1
  have HC1 := Lib.hid hch
  have hs1 := hb1.size
  have hcl : cb < w1.heap.size := by
    obtain ⟨u, z, _, h⟩ := hch
    exact h.lt
  clear hb1 hch
  go_wp2_with fail
  refine (made_any 4 6 (by omega) (by omega) W.heap.size cb nA nn nc hln _ hs1 hcl HC1.out).mono ?_
  rintro e w2 ⟨st, R, pA, gA, rA, pc, gc, rc, rfl, hn, hm, hl, hgood, ⟨gf, gp, hgd⟩, hop, hog, hor, hpc, hgc, hrc, hg2, hch2⟩
  have hn4 : st.n ≤ 4 := by omega
  have HST := Lib.hid (made_ok ⟨hn.1, hn4⟩ hm hl (by omega) hgood hgd)
  have HB2 := Lib.hid (HB1.out.trans (gb_below hg2 hs1 hcb))
  have hs2 := hg2.size
  have HRR := Lib.hid (made_real hgood)
  have HOR := Lib.hid hor
  have HOP := Lib.hid hop
  have HOG := Lib.hid hog
  clear hgood hgd hop hog hor hch2 hg2 hrc HB1 HC1
  go_wp2_with fail
  have hba : Below w2.heap.size w2 (w2.alloc (.cells #[.slice pA st.n pc, .slice gA st.m gc, .int .i64 st.lots] 25)) := (by repeat (first | (with_reducible exact Below.refl _ _) | (with_reducible refine Below.drew ?_) | (with_reducible refine below_drewN ?_ _) | ((with_reducible refine below_alloc ?_ ?_ _); · (first | exact Nat.le_refl _ | omega | (simp; done) | (simp; omega) | (simp at *; omega))) | ((with_reducible refine below_set ?_ ?_ _); · (first | exact Nat.le_refl _ | omega | (simp; done) | (simp; omega) | (simp at *; omega))) | ((with_reducible refine below_via (by with_reducible assumption) ?_ ?_); · (first | exact Nat.le_refl _ | omega | (simp; done) | (simp; omega) | (simp at *; omega)))))
  have HSA : Hid (StAt (w2.alloc (.cells #[.slice pA st.n pc, .slice gA st.m gc, .int .i64 st.lots] 25)) w2.heap.size pA st.n pc gA st.m gc st.lots) := Lib.hid (by (repeat' refine And.intro ?_ ?_) <;> (repeat (first | (with_reducible assumption) | (simp; done) | (with_reducible refine cell_drew_of ?_) | (with_reducible refine cell_drewN_of ?_) | (with_reducible refine cell_below_of (by with_reducible assumption) ?_) | ((with_reducible refine cell_new_of ?_ ?_) <;> (first | (with_reducible rfl) | (simp; done))) | ((with_reducible refine fro_new_of ?_) <;> (first | (with_reducible rfl) | (simp; done))) | (with_reducible refine cell_alloc_of _ ?_) | (with_reducible refine cell_set_of _ (by (first | exact Nat.le_refl _ | omega | (simp; done) | (simp; omega))) ?_) | (with_reducible refine fro_drew_of ?_) | (with_reducible refine fro_drewN_of ?_) | (with_reducible refine fro_below_of (by with_reducible assumption) (by (first | exact Nat.le_refl _ | omega | (simp; done) | (simp; omega))) ?_) | (with_reducible refine fro_alloc_of _ (by (first | exact Nat.le_refl _ | omega | (simp; done) | (simp; omega))) ?_) | (with_reducible refine fro_set_of _ ?_))))
  have HBA := Lib.hid (HB2.out.trans (hba.mono (by omega)))
  have HRA := Lib.hid (StRow.of_own (HOP.out.later hba) (HOG.out.later hba) (by omega) (by omega) hpc hgc)
  have HBY3 := Lib.hid (ByIn.later HBY2.out HBA.out)
  refine (fill_any W.heap.size tA tn tc _ (by simp; omega) HBY3.out).mono ?_
  rintro e w3 ⟨qb, rfl, hqb, hb3, hch3⟩
  have hs3 := hb3.size
  have hql : qb < w3.heap.size := by
    obtain ⟨u, z, _, h⟩ := hch3
    exact h.lt
  have HQ3 : Hid (IntRow w3 (w2.heap.size + 1) rA st.n R) := Lib.hid (by
    have h1 := (HOR.out.later hba).row
    rw [World.size_alloc] at h1
    exact h1.below (by have := hb3; rw [World.size_alloc] at this; exact this))
  have H3 : Hid (MAt W w3 (w2.heap.size + 1) qb st w2.heap.size pA gA pc gc tA tn tc) := Lib.hid ⟨HSA.out.later hb3, by have := HRA.out.later hb3; simpa using this, hch3, HBA.out.trans (hb3.mono (by simp; omega)), by omega, by simpa using hqb, by omega, hql⟩
  clear hba HSA HBA HRA HBY2 HBY3 HB2 HOP HOG HOR hb3 hch3 HBY
  obtain ⟨s0, s1, s2⟩ := H3.out.s
  have hck : st.check = 0 := St.check_ok.2 HST.out
  have HCK := Lib.hid hck
  clear hck
  go_wp2_with fail
  refine (check_any st pA gA pc gc _ (H3.out.r.p.mono H3.out.r.lt) (H3.out.r.g.mono H3.out.r.lt) (by omega) (by omega) hpc hgc).mono ?_
  rintro e w4 ⟨rfl, hb⟩
  rw [HCK.out]
  have H4 := Lib.hid (H3.out.later hb)
  have HQ4 := Lib.hid (HQ3.out.below (hb.mono H3.out.r.lt))
  clear hb s0 s1 s2 H3 HQ3
  go_upto_region 6 with fail
  go_loopw [47] (fun v wr => ∃ r : Nat, r ≤ 5 ∧ v = .int .i64 r ∧ Hid (MAt W wr (w2.heap.size + 1) qb st w2.heap.size pA gA pc gc tA tn tc) ∧ Hid (IntRow wr (w2.heap.size + 1) rA st.n R)) (fun v _ => 5 - (intOf v).toNat)
  case atStart => exact ⟨0, by omega, rfl, H4, HQ4⟩
  case round =>
    clear H4 HQ4
    obtain ⟨r, hr, rfl, HR, HQ⟩ := hrel
    obtain ⟨wo, rfl⟩ : ∃ wo, wo = wr := ⟨_, rfl⟩
    by_cases hrt : r < 5
    · have hri : (r : Int) < 5 := by omega
      have er : IntKind.i64.wrap ((r : Int) + 1) = (r : Int) + 1 := IntWalk.i64_in _ (by omega)
      have hqo := HR.out.hc
      have hBq := HR.out.hB
      have hBw := HR.out.r.lt
      obtain ⟨s0, s1, s2⟩ := HR.out.s
      go_wp2_with fail
      refine (madelot_any st W.heap.size _ qb tA tn tc hln2 pA gA pc gc _ HR.out.r (fun a ha => by
        obtain ⟨b, o, h1, h2, _⟩ := HR.out.r.p 0 hn.1
        rw [ha] at h1
        injection h1 with h1
        subst h1
        dsimp only
        omega) hn4 (fun i hi => (HST.out.pk i hi).1) HR.out.b.size hqo HR.out.c).mono ?_
      rintro e w5 ⟨lA, lc, X, rfl, hol, hlc, hx, hg, hch⟩
      have HL5 : Hid (LAt W w5 (w2.heap.size + 1) qb wo.heap.size st w2.heap.size pA gA pc gc tA tn tc lA X) := Lib.hid ⟨HR.out.keep hg hch, hol, hqo⟩
      have HQ5 := Lib.hid (HQ.out.below (gb_below hg hBw hBq))
      have HX := Lib.hid hx
      have HA := Lib.hid (lot_ask HST.out hx)
      have hin : (bagOf X st.n).in_ st.all := bagOf_in (St.askErr_ok HA.out).2.1
      have hszb := St.size_bd HST.out hin
      have hhib := St.hi_bd HST.out hin
      have hlob := St.lo_bd HST.out hin
      have HSH := Lib.hid (sure_has HST.out hin)
      have HSB := Lib.hid (sure_brings (st := st) (x := bagOf X st.n))
      have HSD := Lib.hid (sure_bd (st := st) (x := bagOf X st.n))
      have HBR := Lib.hid (St.brings_bd HST.out hin)
      have HHS := Lib.hid (hi_sum (st := st) (X := X) hn4)
      have HSU := Lib.hid (bag_sum (st := st) (X := X) hn4)
      have HBP := Lib.hid (St.bad_possS HA.out)
      have HX6 : Hid (∀ k, k < st.n → -100 ≤ X k ∧ X k ≤ 100) := Lib.hid (fun k hk => by have h1 := HX.out k hk; have h2 := (HST.out.pk k hk).1; omega)
      have HI6 : Hid (∀ k, k < st.n → -100 ≤ (st.P k).hiOf (X k) ∧ (st.P k).hiOf (X k) ≤ 100) := Lib.hid (fun k hk => by
        have h1 := HX.out k hk
        have h2 := Pk.hi_bd (HST.out.pk k hk)
        have h3 := (HST.out.pk k hk).1
        show -100 ≤ min (X k) (st.P k).hi ∧ min (X k) (st.P k).hi ≤ 100
        omega)
      clear hol hlc hx hg hch hin s0 s1 s2 HR HQ
      go_wp2_with fail
      refine (total_eq lA st.n lc X _ _ HL5.out.l.row (by omega) HX6.out HSU.out).mono ?_
      rintro e w6 ⟨rfl, hb⟩
      obtain ⟨sz, hsz⟩ : ∃ sz, (bagOf X st.n).size = sz := ⟨_, rfl⟩
      rw [hsz] at hszb HSH HSB ⊢
      have HL6 := Lib.hid (HL5.out.later hb)
      have HQ6 := Lib.hid (HQ5.out.below (hb.mono HL5.out.m.r.lt))
      clear hb hsz HL5 HQ5 HSU
      obtain ⟨s0, s1, s2⟩ := HL6.out.m.s
      go_wp2_with fail
      refine (Span_any st _ pA gA pc gc lA st.n lc X _ HL6.out.m.r HL6.out.l.row (by omega)).mono ?_
      rintro e w7 ⟨rfl, hb⟩
      have esp : st.spanR st.n X = (st.lo (bagOf X st.n), st.hi (bagOf X st.n), 0) := by unfold St.spanR; rw [if_neg (by simp [HA.out])]
      rw [esp]
      obtain ⟨clo, hclo⟩ : ∃ x, st.lo (bagOf X st.n) = x := ⟨_, rfl⟩
      obtain ⟨chi, hchi⟩ : ∃ x, st.hi (bagOf X st.n) = x := ⟨_, rfl⟩
      rw [hchi] at hhib HSH HHS
      rw [hclo] at hlob
      rw [hclo, hchi]
      have HLO := Lib.hid hclo
      have HHI := Lib.hid hchi
      have HL7 := Lib.hid (HL6.out.later hb)
      have HQ7 := Lib.hid (HQ6.out.below (hb.mono HL6.out.m.r.lt))
      have hs7 := HL7.out.l
      have hwo7 : wo.heap.size ≤ w7.heap.size := by
        obtain ⟨b, _, h1, h2, _⟩ := HL7.out.l 0 hn.1
        have := World.block_lt_of_cell? w7 _ h2
        dsimp only at this
        omega
      clear hb esp hclo hchi s0 s1 s2 hs7 HL6 HQ6
      go_upto_region 10 with fail
      refine wp_name (fun W1 => N2At W1 w7.heap.size clo chi ∧ Below w7.heap.size w7 W1 ∧ w7.heap.size + 1 ≤ W1.heap.size) ⟨(by (repeat' refine And.intro ?_ ?_) <;> (repeat (first | (with_reducible assumption) | (simp; done) | (with_reducible refine cell_drew_of ?_) | (with_reducible refine cell_drewN_of ?_) | (with_reducible refine cell_below_of (by with_reducible assumption) ?_) | ((with_reducible refine cell_new_of ?_ ?_) <;> (first | (with_reducible rfl) | (simp; done))) | ((with_reducible refine fro_new_of ?_) <;> (first | (with_reducible rfl) | (simp; done))) | (with_reducible refine cell_alloc_of _ ?_) | (with_reducible refine cell_set_of _ (by (first | exact Nat.le_refl _ | omega | (simp; done) | (simp; omega))) ?_) | (with_reducible refine fro_drew_of ?_) | (with_reducible refine fro_drewN_of ?_) | (with_reducible refine fro_below_of (by with_reducible assumption) (by (first | exact Nat.le_refl _ | omega | (simp; done) | (simp; omega))) ?_) | (with_reducible refine fro_alloc_of _ (by (first | exact Nat.le_refl _ | omega | (simp; done) | (simp; omega))) ?_) | (with_reducible refine fro_set_of _ ?_)))), (by repeat (first | (with_reducible exact Below.refl _ _) | (with_reducible refine Below.drew ?_) | (with_reducible refine below_drewN ?_ _) | ((with_reducible refine below_alloc ?_ ?_ _); · (first | exact Nat.le_refl _ | omega | (simp; done) | (simp; omega) | (simp at *; omega))) | ((with_reducible refine below_set ?_ ?_ _); · (first | exact Nat.le_refl _ | omega | (simp; done) | (simp; omega) | (simp at *; omega))) | ((with_reducible refine below_via (by with_reducible assumption) ?_ ?_); · (first | exact Nat.le_refl _ | omega | (simp; done) | (simp; omega) | (simp at *; omega))))), by simp⟩ ?_
      rintro w8 ⟨hnx, hba, hs8⟩
      obtain ⟨bs, hbs⟩ : ∃ b, w7.heap.size = b := ⟨_, rfl⟩
      have H8 : Hid (SoAt W w8 (w2.heap.size + 1) qb wo.heap.size st w2.heap.size pA gA pc gc tA tn tc rA R lA X bs clo chi) := Lib.hid (by
        have hl := HL7.out.later hba
        exact ⟨hl.m, HQ7.out.below (hba.mono HL7.out.m.r.lt), hl.l, hqo, by rw [← hbs]; exact hnx, by omega⟩)
      rw [hbs]
      clear hnx hba hbs HL7 HQ7 hs8 hwo7
      obtain ⟨s0, s1, s2⟩ := H8.out.m.s
      go_wp2_with fail
      refine (Sure_any st _ pA gA pc gc lA st.n lc X _ H8.out.m.r H8.out.l.row (by omega)).mono ?_
      rintro e w9 ⟨rfl, hb⟩
      have esr : st.sureR st.n X = (st.sureI (bagOf X st.n), 0) := by unfold St.sureR; rw [if_neg (by simp [HA.out])]
      rw [esr]
      obtain ⟨sv, hsv⟩ : ∃ sv, st.sureI (bagOf X st.n) = sv := ⟨_, rfl⟩
      rw [hsv] at HSH HSB HSD ⊢
      have H9 := Lib.hid (H8.out.later hb)
      clear hb esr hsv s0 s1 s2 H8
      obtain ⟨s0, s1, s2⟩ := H9.out.m.s
      go_wp2_with fail
      refine (Brings_any st _ pA gA pc gc lA st.n lc X _ H9.out.m.r H9.out.l.row (by omega)).mono ?_
      rintro e wa ⟨rfl, hb⟩
      have ebr : st.bringsR st.n X = (st.brings (bagOf X st.n), 0) := by unfold St.bringsR; rw [if_neg (by simp [HA.out])]
      rw [ebr]
      obtain ⟨br, hbr⟩ : ∃ br, st.brings (bagOf X st.n) = br := ⟨_, rfl⟩
      rw [hbr] at HSB HBR ⊢
      have Ha := Lib.hid (H9.out.later hb)
      clear hb ebr hbr s0 s1 s2 H9
      obtain ⟨s0, s1, s2⟩ := Ha.out.m.s
      go_wp2_with fail
      refine (Bad_any st _ pA gA pc gc lA st.n lc X _ Ha.out.m.r Ha.out.l.row (by omega)).mono ?_
      rintro e wb ⟨hb, hp⟩
      rcases hp with ⟨_, bA, bc, iA, ic, rfl, hr1, hr2, _, _⟩ | ⟨h0, _⟩
      · have Hb := Lib.hid (Ha.out.later hb)
        have HB1 := Lib.hid hr1
        have HB2 := Lib.hid hr2
        clear hb hr1 hr2 s0 s1 s2 Ha
        obtain ⟨s0, s1, s2⟩ := Hb.out.m.s
        go_wp2_with fail
        refine (Possible_any st _ pA gA pc gc lA st.n lc X bA st.n bc (fun k => (st.P k).hi) iA st.n ic (fun k => (st.P k).hiOf (X k)) _ Hb.out.m.r Hb.out.l.row (by omega) HB1.out HB2.out).mono ?_
        rintro e wc ⟨rfl, hb⟩
        rw [HBP.out]
        have Hc := Lib.hid (Hb.out.later hb)
        have HI := Lib.hid (HB2.out.later hb)
        have hsd := HSD.out
        have hv1 : ¬ sv < -1 := by omega
        have hv2 : ¬ (st.m : Int) ≤ sv := by omega
        clear hb s0 s1 s2 Hb HB1 HB2 HBP hsd
        have hcc : (chi != chi) = false := by simp
        obtain ⟨⟨n0, n1⟩, _⟩ := Hc.out.n
        obtain ⟨s0, s1, s2⟩ := Hc.out.m.s
        go_upto_region 14 with fail
        refine region_qbw (by kernel_rfl) (by kernel_rfl) ?_
        have x0 := cell_regrown n1
        have x1 := cell_regrown s1
        clear n0 n1 s0 s1 s2
        repeat (first | go_big_quiet_step ((go_at_call 41; exact Calls.regrown_of (total_eq iA st.n ic (fun k => (st.P k).hiOf (X k)) chi _ (HI.out.later (below_regrown _ _ _)) (by omega) HI6.out HHS.out))) | quiet_step ((go_at_call 41; exact Calls.regrown_of (total_eq iA st.n ic (fun k => (st.P k).hiOf (X k)) chi _ (HI.out.later (below_regrown _ _ _)) (by omega) HI6.out HHS.out))))
        refine wpQuiet_nil ?_; intro wq hbq
        clear x0 x1
        have Hd := Lib.hid (Hc.out.later hbq)
        clear hbq Hc HI
        go_upto_region 16 with fail
        refine sold_tail W (w2.heap.size + 1) qb wo.heap.size st w2.heap.size pA gA pc gc tA tn tc rA R lA X bs clo chi rc lc sz sv br HST ⟨hn.1, hn4⟩ hm hln2 HX HA HRR HLO HHI hszb hhib hlob HSH HSB HBR _ Hd _ (fun w' Hh => ?_) _ (by assumption)
        go_wp2_with fail
        go_roundw
        case rel => exact ⟨r + 1, by omega, by go_num, Lib.hid Hh.out.m, Lib.hid Hh.out.q⟩
        case measure => simp [intOf]; omega
      · exact absurd HA.out h0
    · obtain rfl : r = 5 := by omega
      have hge : ¬ ((5 : Nat) : Int) < 5 := by omega
      go_wp2_with fail
      refine (awake_any _).mono ?_
      rintro e wc ⟨rfl, hb⟩
      have Hc := Lib.hid (HR.out.b.trans (hb.mono HR.out.b.size))
      clear hb
      go_wp2_with fail
      go_ret
      exact ⟨rfl, Hc.out⟩
end Go.Proofs.Ytegmomappbehcaa

set_option linter.unusedSimpArgs false
set_option linter.unusedVariables false
namespace Go.Proofs.Ytegmomappbehcaa
open Go.ChangeShapes Go.WideShapes Go.ChangeAt Go.RowKit

set_option maxRecDepth 100000 in
set_option maxHeartbeats 1000000 in
theorem sold_lifted (os : Os) (started : os.Started) (H : Type) (enc : TypeId × Value → H) :
    ReturnsInHanded {} Try.checked os 15 .any (Rows.lotSoldSpec.pre6 enc Try.prog Try.f15 Rows.lotSoldRow.domain false) (Rows.lotSoldSpec.post enc Try.prog Try.f15 false true false false) := by
  refine returnsInHanded_of_change (C := Try.checked) own_knob started (by kernel_rfl) Try.func15
    (ChangeSpec.witness6 (enc := enc) (C := Try.checked) false ⟨#[], #[.slice none 0 0, .slice none 0 0], []⟩ 8 (by kernel_rfl) (by kernel_rfl) (by kernel_rfl) (by kernel_rfl)) ?_
  intro W base args ds gs before hval0 hW hcnd _
  have hval : ∀ (j : Nat) t v, Try.f15.params[j]? = some t → args[j]? = some v → Value.okWide Try.prog W .any base t v := hval0
  have hW' := hW
  obtain ⟨p, q, hA0, hV, rfl, hfz, hnd⟩ := hW
  have hA : DataW.TrodAll enc Try.prog W 0 (fun _ => true) true Try.f15.params.toList args.toList ds p := hA0
  rw [Try.params15] at hA hval
  obtain ⟨v0, v1, d0, d1, p0, p1, rfl, rfl, rfl, h0, h1⟩ := trodAll_two hA
  obtain ⟨rfl, rfl⟩ := trodVars_none hV
  obtain ⟨a0, n0, c0, rfl⟩ := okWide_slice Try.underlying63 (hval 0 63 v0 rfl rfl)
  have h0k := h0
  obtain ⟨f0, g0⟩ := h0
  obtain ⟨A, n, c, hv, hby0, hmx0⟩ := open_bytes (v := .slice a0 n0 c0) g0
  injection hv with hv1 hv2 hv3
  subst hv1 hv2 hv3
  obtain ⟨a1, n1, c1, rfl⟩ := okWide_slice Try.underlying63 (hval 1 63 v1 rfl rfl)
  have h1k := h1
  obtain ⟨f1, g1⟩ := h1
  obtain ⟨A, n, c, hv, hby1, hmx1⟩ := open_bytes (v := .slice a1 n1 c1) g1
  injection hv with hv1 hv2 hv3
  subst hv1 hv2 hv3
  clear hA0 hval0
  simp only [List.append_nil] at hW'
  have hlt0 : ∀ x ∈ p0, x.block < W.heap.size := fun x hx => hW'.lt x (by simp [hx])
  have hlt1 : ∀ x ∈ p1, x.block < W.heap.size := fun x hx => hW'.lt x (by simp [hx])
  refine (sold_law a0 n0 c0 a1 n1 c1 W hby0 (by unfold maxLen at hmx0; omega) hby1 (by unfold maxLen at hmx1; omega)).mono fun e W' ⟨he, bel⟩ => ?_
  subst he
  exact ⟨_, rfl, _, _, _, [], _, [], hW', trodAll_mk1 (shut_bool Try.underlying4 true),
    trodAll_mk2 (Below.trod laid_out (by kernel_rfl) (of_decide_eq_true (by kernel_rfl)) h0k bel hlt0) (Below.trod laid_out (by kernel_rfl) (of_decide_eq_true (by kernel_rfl)) h1k bel hlt1), rfl, bel.frame _, fun h => by cases h⟩

theorem lot_sold_holds : Rows.LotSoldSaid :=
  OpenClaim.holds_of_wide 15 Try.f15 rfl rfl rfl rfl rfl rfl rfl ⟨rfl, rfl, rfl, rfl, rfl⟩ rfl rfl rfl rfl rfl (by kernel_rfl) Try.func15 (by kernel_rfl)
    (of_decide_eq_true (by kernel_rfl)) (by unfold Func.isWrapper; first | (rw [if_pos (by decide +kernel)]; kernel_rfl) | (rw [if_neg (by decide +kernel)]; exact ⟨rfl, rfl⟩))
    (fun os started H enc _ => sold_lifted os started H enc)
#print axioms lot_sold_holds
end Go.Proofs.Ytegmomappbehcaa
