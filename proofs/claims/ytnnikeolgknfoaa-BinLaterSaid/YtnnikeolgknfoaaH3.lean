/- The law BinLater: its loop over the days. -/
import Derived.Test.YtnnikeolgknfoaaH1
import Derived.Test.YtnnikeolgknfoaaG3
import Derived.Test.YtnnikeolgknfoaaD3
import Derived.Test.YtnnikeolgknfoaaNq
set_option linter.unusedSimpArgs false
set_option linter.unusedVariables false
namespace Go.Proofs.Ytnnikeolgknfoaa
open Go.RowKit Go.Shelf

/-- the loop at work: the row with more and more days -/
structure LtAt (w0 w : World) (m0 wx : Nat) (k : Nat) (r : Rw) (t : Nat) (bA : Option Addr) (bc : Nat) (vA : Option Addr) (vc : Nat) (pA : Option Addr) (vd : Value) : Prop where
  n : V3 w wx (.slice bA r.n bc) vd (.slice vA r.m vc)
  d : w.ownsRow m0 58 1 vd (r.d + t) (numCells (r.days k t).D (r.d + t))
  p : SpRow w w.heap.size pA r.n r.sp
  nw : vd.ownBlock ≠ some wx
  np : ∀ a, pA = some a → vd.ownBlock ≠ some a.block ∧ a.block ≠ wx
  bel : Below m0 w0 w
  hm : m0 ≤ wx
theorem LtAt.later {w0 w w' : World} {m0 wx : Nat} {k : Nat} {r : Rw} {t : Nat} {bA : Option Addr} {bc : Nat} {vA : Option Addr} {vc : Nat} {pA : Option Addr} {vd : Value} (h : LtAt w0 w m0 wx k r t bA bc vA vc pA vd) (hb : Below w.heap.size w w') : LtAt w0 w' m0 wx k r t bA bc vA vc pA vd :=
  ⟨h.n.same (hb.block _ h.n.lt), owns_later h.d hb, h.p.later hb, h.nw, h.np, h.bel.trans (hb.mono (by have := h.n.lt; have := h.hm; omega)), h.hm⟩

theorem sameSp {w w' : World} {B B' b o n : Nat} {P : Nat → Sp} (h : SpRow w B (some ⟨b, o, none⟩) n P) (hs : w'.heap[b]? = w.heap[b]?) (hB : B ≤ B') : SpRow w' B' (some ⟨b, o, none⟩) n P := fun k hk => by
  obtain ⟨b', o', hA, hl, c0, c1⟩ := h k hk
  injection hA with hA
  injection hA with h1 h2
  subst h1 h2
  exact ⟨b, o, rfl, by omega, cell_same hs c0, cell_same hs c1⟩
theorem LtAt.put {w0 w w6 : World} {m0 wx : Nat} {k : Nat} {r : Rw} {t : Nat} {bA : Option Addr} {bc : Nat} {vA : Option Addr} {vc : Nat} {pb po g cap : Nat} {vd : Value} {o : Obj} (h : LtAt w0 w m0 wx k r t bA bc vA vc (some ⟨pb, po, none⟩) vd) (hpb : pb < w.heap.size)
    (hown : w6.ownsRow m0 58 1 (.slice (some ⟨g, 0, none⟩) (r.d + t + 1) cap) (r.d + t + 1) (numCells (r.days k t).D (r.d + t) ++ [.int .i64 (k : Int)])) (hgr : (w.alloc o).grownBy w6 vd.ownBlock) (hat : vd.ownBlock = some g ∨ g = w.heap.size + 1) :
    LtAt w0 (w6.setCell ⟨wx, 1, none⟩ (.slice (some ⟨g, 0, none⟩) (r.d + (t + 1)) cap)) m0 wx k r (t + 1) bA bc vA vc (some ⟨pb, po, none⟩) (.slice (some ⟨g, 0, none⟩) (r.d + (t + 1)) cap) := by
  have hlt := h.n.lt
  have hm := h.hm
  have hnp := h.np _ rfl
  dsimp only at hnp
  have h1 : w6.heap[wx]? = w.heap[wx]? := (hgr.block wx (by simp; omega) (fun e => h.nw e.symm)).trans (Below.heap_alloc _ _ _ hlt)
  have h2 : w6.heap[pb]? = w.heap[pb]? := (hgr.block pb (by simp; omega) (fun e => hnp.1 e.symm)).trans (Below.heap_alloc _ _ _ hpb)
  have hgw : g ≠ wx := fun e => by
    rcases hat with h3 | h3
    · rw [e] at h3; exact h.nw h3
    · omega
  have hgp : g ≠ pb := fun e => by
    rcases hat with h3 | h3
    · rw [e] at h3; exact hnp.1 h3
    · omega
  have hs6 := hgr.size
  simp at hs6
  have hv1 := h.d.lt
  refine ⟨(h.n.same h1).set1 _, ?_, sameSp h.p ((set_heap _ (by dsimp only; exact fun e => hnp.2 e)).trans h2) (by simp [World.setCell]; omega), fun e => ?_, fun a ha => ?_, ?_, hm⟩
  · have e : numCells (r.days k (t + 1)).D (r.d + (t + 1)) = numCells (r.days k t).D (r.d + t) ++ [.int .i64 (k : Int)] := by
      rw [numCells_put]
      have ef : (r.days k (t + 1)).D = fun j => if j = r.d + t then (k : Int) else (r.days k t).D j := by
        funext j
        show (if j < r.d then r.D j else (k : Int)) = if j = r.d + t then (k : Int) else if j < r.d then r.D j else (k : Int)
        by_cases ej : j = r.d + t
        · rw [if_pos ej, if_neg (by omega)]
        · rw [if_neg ej]
      rw [ef]
      rfl
    rw [e]
    exact owns_sm hown (fun g' h1 h2 => set_heap _ (by
      dsimp only
      intro e
      first | exact hgw ((Option.some.inj h2).trans e) | exact hgw ((Option.some.inj h2).trans e.symm)))
  · injection e with e
    exact hgw e
  · injection ha with ha
    subst ha
    exact ⟨fun e => by injection e with e; exact hgp e, hnp.2⟩
  · exact (h.bel.trans (Below.grown ((Below.refl _ w).alloc (by omega) _) hgr (by simp; omega) (fun q hq => (hv1 q hq).1))).setCell (by dsimp only; omega) _

set_option maxRecDepth 100000 in
set_option maxHeartbeats 8000000 in
theorem later_loop1 (r : Rw) (HOK : Hid r.ok) (HM0 : Hid (r.m = 0)) (b k : Nat) (hb : b < r.n) (hk : k < 3) (mo : Int) (hmo : 0 ≤ mo ∧ mo ≤ 139) (rx ux gx wx m0 : Nat) (hd1 : r.d ≤ 4) (hn6 : r.n ≤ 6) (bA0 bA vA pA : Option Addr) (bc0 bc vc pc : Nat) (hbc : r.n ≤ bc) (hvc : r.m ≤ vc) (y1 y2 g1 g2 : Int) (HU : Hid (y1 = untilR (r.sp b).b ((r.B b).hi k) mo ∧ y2 = untilR (r.sp b).a ((r.B b).lo k) mo)) (HG : Hid (g1 = (r.B b).lo k ∧ g2 = (r.B b).hi k)) {u0 u1 u2 u3 u4 u5 u6 u7 u8 u9 u15 u20 u21 u22 u23 u24 u25 u26 u27 u28 u29 u30 u31 u32 u33 u34 u35 u36 u37 u38 u39 u40 u41 u42 u43 u44 u45 u46 u47 u48 u49 u50 u51 u52 u53 u54 u55 u56 u57 u58 u59 u60 u61 u62 u63 u64 u65 u66 u67 u68 u69 u70 u71 u72 u73 u74 u75 u76 u77 u78 u79 u80 u81 u82 u83 u84 u85 u86 u87 u88 u89 u90 u91 u92 u93 u94 u95 u96 u97 u98 u99 u100 u101 u102 u103 u104 u105 u106 u107 u108 u109 u110 u111 u112 u113 u114 u115 u116 u117 u118 u119 u120 u121 u122 u123 u124 u125 u126 u127 u128 u129 u130 u131 u132 u133 u134 u135 u136 u137 u138 u139 u140 u141 u142 u143 u144 u145 u146 u147 u148 u149 u150 u151 u152 u153 u154 u155 u156 u157 u158 u159 u160 u161 u162 u163 u164 u165 u166 u167 u168 u169 u170 u171 u172 u173 u174 u175 u176 u177 u178 u179 u180 u181 u182 u183 u184 u185 u186 u187 u188 u189 u190 u191 u192 u193 u194 u195 u196 u197 u198 u199 u200 u201 u202 u203 u204 u205 u206 u207 u208 u209 u210 u211 u212 u213 u214 u215 u216 u217 u218 u219 u220 u221 u222 u223 u224 u225 u226 u227 u228 u229 u230 u231 u232 u233 u234 u235 u236 u237 u238 u239 u240 u241 u242 u243 u244 u245 u246 u247 u248 u249 u250 u251 u252 u253 u254 u255 u256 u257 u258 u259 u260 : Value} (w : World) (HB0 : Hid (BnRow w m0 bA r.n r.B)) (HC : Hid (w.cell? ⟨rx, 0, none⟩ = some (.slice bA0 r.n bc0) ∧ N2c w ux y1 y2 ∧ N2c w gx g1 g2)) (hlt : rx < m0 ∧ ux < m0 ∧ gx < m0) (vd0 : Value) (HL : Hid (LtAt w w m0 wx k r 0 bA bc vA vc pA vd0))
    (Q : Exit → Act → World → Prop) (hK : ∀ {x8 x19 x20 x21 x77 x78 x79 x80 x81 x82 x83 x84 x85 x86 x87 x88 x89 x90 x91 x92 x93 x94 x95 x96 x97 x98 x99 x100 x101 x102 x103 x104 x105 x106 x107 x108 x109 x110 x111 x112 x113 x114 x115 x116 x117 x118 x119 x120 x121 x122 x123 x124 x125 x126 x127 x128 x129 x130 x131 x132 x133 x134 x135 x136 x137 x138 x139 x140 x141 x142 x143 x144 x145 x146 x147 x148 x149 x150 x151 x152 x153 x154 x155 x156 x157 x158 x159 x160 x161 x162 x163 x164 x165 x166 x167 : Value} (w' : World), Hid (Below m0 w w') → Q .normal ⟨(List.toArray (u0 :: u1 :: u2 :: u3 :: u4 :: u5 :: u6 :: u7 :: x8 :: u9 :: (.pointer (some ⟨rx, 0, none⟩)) :: (.int .i64 (b : Int)) :: (.int .i64 (k : Int)) :: (.int .i64 mo) :: (.pointer (some ⟨ux, 0, none⟩)) :: u15 :: (.pointer (some ⟨gx, 0, none⟩)) :: (.pointer (some ⟨wx, 0, none⟩)) :: (.slice pA r.n pc) :: x19 :: x20 :: x21 :: u22 :: u23 :: u24 :: u25 :: u26 :: u27 :: u28 :: u29 :: u30 :: u31 :: u32 :: u33 :: u34 :: u35 :: u36 :: u37 :: u38 :: u39 :: u40 :: u41 :: u42 :: u43 :: u44 :: u45 :: u46 :: u47 :: u48 :: u49 :: u50 :: u51 :: u52 :: u53 :: u54 :: u55 :: u56 :: u57 :: u58 :: u59 :: u60 :: u61 :: u62 :: u63 :: u64 :: u65 :: u66 :: u67 :: u68 :: u69 :: u70 :: u71 :: u72 :: u73 :: u74 :: u75 :: u76 :: x77 :: x78 :: x79 :: x80 :: x81 :: x82 :: x83 :: x84 :: x85 :: x86 :: x87 :: x88 :: x89 :: x90 :: x91 :: x92 :: x93 :: x94 :: x95 :: x96 :: x97 :: x98 :: x99 :: x100 :: x101 :: x102 :: x103 :: x104 :: x105 :: x106 :: x107 :: x108 :: x109 :: x110 :: x111 :: x112 :: x113 :: x114 :: x115 :: x116 :: x117 :: x118 :: x119 :: x120 :: x121 :: x122 :: x123 :: x124 :: x125 :: x126 :: x127 :: x128 :: x129 :: x130 :: x131 :: x132 :: x133 :: x134 :: x135 :: x136 :: x137 :: x138 :: x139 :: x140 :: x141 :: x142 :: x143 :: x144 :: x145 :: x146 :: x147 :: x148 :: x149 :: x150 :: x151 :: x152 :: x153 :: x154 :: x155 :: x156 :: x157 :: x158 :: x159 :: x160 :: x161 :: x162 :: x163 :: x164 :: x165 :: x166 :: x167 :: u168 :: u169 :: u170 :: u171 :: u172 :: u173 :: u174 :: u175 :: u176 :: u177 :: u178 :: u179 :: u180 :: u181 :: u182 :: u183 :: u184 :: u185 :: u186 :: u187 :: u188 :: u189 :: u190 :: u191 :: u192 :: u193 :: u194 :: u195 :: u196 :: u197 :: u198 :: u199 :: u200 :: u201 :: u202 :: u203 :: u204 :: u205 :: u206 :: u207 :: u208 :: u209 :: u210 :: u211 :: u212 :: u213 :: u214 :: u215 :: u216 :: u217 :: u218 :: u219 :: u220 :: u221 :: u222 :: u223 :: u224 :: u225 :: u226 :: u227 :: u228 :: u229 :: u230 :: u231 :: u232 :: u233 :: u234 :: u235 :: u236 :: u237 :: u238 :: u239 :: u240 :: u241 :: u242 :: u243 :: u244 :: u245 :: u246 :: u247 :: u248 :: u249 :: u250 :: u251 :: u252 :: u253 :: u254 :: u255 :: u256 :: u257 :: u258 :: u259 :: u260 :: [])), []⟩ w') :
    Code.wp Try.prog (blkIn Try.f5 0) Q ⟨(List.toArray (u0 :: u1 :: u2 :: u3 :: u4 :: u5 :: u6 :: u7 :: u8 :: u9 :: (.pointer (some ⟨rx, 0, none⟩)) :: (.int .i64 (b : Int)) :: (.int .i64 (k : Int)) :: (.int .i64 mo) :: (.pointer (some ⟨ux, 0, none⟩)) :: u15 :: (.pointer (some ⟨gx, 0, none⟩)) :: (.pointer (some ⟨wx, 0, none⟩)) :: (.slice pA r.n pc) :: (.int .i64 0) :: u20 :: u21 :: u22 :: u23 :: u24 :: u25 :: u26 :: u27 :: u28 :: u29 :: u30 :: u31 :: u32 :: u33 :: u34 :: u35 :: u36 :: u37 :: u38 :: u39 :: u40 :: u41 :: u42 :: u43 :: u44 :: u45 :: u46 :: u47 :: u48 :: u49 :: u50 :: u51 :: u52 :: u53 :: u54 :: u55 :: u56 :: u57 :: u58 :: u59 :: u60 :: u61 :: u62 :: u63 :: u64 :: u65 :: u66 :: u67 :: u68 :: u69 :: u70 :: u71 :: u72 :: u73 :: u74 :: u75 :: u76 :: u77 :: u78 :: u79 :: u80 :: u81 :: u82 :: u83 :: u84 :: u85 :: u86 :: u87 :: u88 :: u89 :: u90 :: u91 :: u92 :: u93 :: u94 :: u95 :: u96 :: u97 :: u98 :: u99 :: u100 :: u101 :: u102 :: u103 :: u104 :: u105 :: u106 :: u107 :: u108 :: u109 :: u110 :: u111 :: u112 :: u113 :: u114 :: u115 :: u116 :: u117 :: u118 :: u119 :: u120 :: u121 :: u122 :: u123 :: u124 :: u125 :: u126 :: u127 :: u128 :: u129 :: u130 :: u131 :: u132 :: u133 :: u134 :: u135 :: u136 :: u137 :: u138 :: u139 :: u140 :: u141 :: u142 :: u143 :: u144 :: u145 :: u146 :: u147 :: u148 :: u149 :: u150 :: u151 :: u152 :: u153 :: u154 :: u155 :: u156 :: u157 :: u158 :: u159 :: u160 :: u161 :: u162 :: u163 :: u164 :: u165 :: u166 :: u167 :: u168 :: u169 :: u170 :: u171 :: u172 :: u173 :: u174 :: u175 :: u176 :: u177 :: u178 :: u179 :: u180 :: u181 :: u182 :: u183 :: u184 :: u185 :: u186 :: u187 :: u188 :: u189 :: u190 :: u191 :: u192 :: u193 :: u194 :: u195 :: u196 :: u197 :: u198 :: u199 :: u200 :: u201 :: u202 :: u203 :: u204 :: u205 :: u206 :: u207 :: u208 :: u209 :: u210 :: u211 :: u212 :: u213 :: u214 :: u215 :: u216 :: u217 :: u218 :: u219 :: u220 :: u221 :: u222 :: u223 :: u224 :: u225 :: u226 :: u227 :: u228 :: u229 :: u230 :: u231 :: u232 :: u233 :: u234 :: u235 :: u236 :: u237 :: u238 :: u239 :: u240 :: u241 :: u242 :: u243 :: u244 :: u245 :: u246 :: u247 :: u248 :: u249 :: u250 :: u251 :: u252 :: u253 :: u254 :: u255 :: u256 :: u257 :: u258 :: u259 :: u260 :: [])), []⟩ w := by
  (conv => arg 2; whnf)
  obtain ⟨i0, hi, hz0, hz1, hz2⟩ := info_parts infoKd
  go_wp2_with fail
  go_loopw [19] (fun i wr => ∃ (t : Nat) (vd : Value), r.d + t ≤ 8 ∧ i = .int .i64 t ∧ Hid (LtAt w wr m0 wx k r t bA bc vA vc pA vd)) (fun i _ => 8 - (intOf i).toNat)
  case atStart => exact ⟨0, vd0, by omega, rfl, HL⟩
  case round =>
    clear HL
    obtain ⟨t, vd, ht, rfl, HL⟩ := hrel
    obtain ⟨wo, rfl⟩ : ∃ wo, wo = wr := ⟨_, rfl⟩
    obtain ⟨dA, dc, rfl, hod, hdc⟩ := ownInt_T (X := (r.days k t).D) HL.out.d
    have HOD := Lib.hid hod
    have hq1 := HL.out.n.c1
    have et : IntKind.i64.wrap ((t : Int) + 1) = (t : Int) + 1 := IntWalk.i64_in _ (by omega)
    clear hod
    by_cases hle : r.d + t ≤ 7
    · have hlei : ((r.d + t : Nat) : Int) ≤ 7 := by omega
      have hq0 := HL.out.n.c0
      have hq2 := HL.out.n.c2
      have hsz := HL.out.n.lt
      have hmm := HL.out.hm
      have hok7 := Rw.days_ok HOK.out (k := (k : Int)) ⟨by omega, by omega⟩ hle
      go_wp2_with fail
      refine (Spans_any (r.days k t) bA dA vA bc dc vc _ ⟨Nat.le_refl _, (HB0.out.below HL.out.bel).mono (by omega), HOD.out.row, fun q hq => absurd hq (by show ¬ q < r.m; rw [HM0.out]; omega), by show r.n ≤ 1000; omega, by show r.d + t ≤ 1000; omega, by show r.m ≤ 1000; rw [HM0.out]; omega, hbc, hdc, hvc⟩).mono ?_
      intro e w2 hpost
      obtain ⟨sA, sc, rfl, hsr, hsc, hb2⟩ := sps_of (n := r.n) hpost (Rw.check_ok.2 hok7)
      have HL2 := Lib.hid (HL.out.later hb2)
      have HC2 := Lib.hid (show w2.cell? ⟨rx, 0, none⟩ = some (.slice bA0 r.n bc0) ∧ N2c w2 ux y1 y2 ∧ N2c w2 gx g1 g2 from ⟨cell_same (HL2.out.bel.block _ (by omega)) HC.out.1, ⟨cell_same (HL2.out.bel.block _ (by omega)) HC.out.2.1.1, cell_same (HL2.out.bel.block _ (by omega)) HC.out.2.1.2⟩, ⟨cell_same (HL2.out.bel.block _ (by omega)) HC.out.2.2.1, cell_same (HL2.out.bel.block _ (by omega)) HC.out.2.2.2⟩⟩)
      obtain ⟨sb, so, hsA, hsl, s0, s1⟩ := hsr b hb
      rw [Rw.sp_days HOK.out k t hb, Int.toNat_natCast] at s0 s1
      obtain ⟨pb, po, hpA, hpl, p0, p1⟩ := HL2.out.p b hb
      have hU := HU.out
      have hG := HG.out
      have hbd := Rw.sp_bd HOK.out hb
      have hgg := (HOK.out.b b hb).g k hk
      rw [← hG.1, ← hG.2] at s0 s1 hgg hU
      obtain ⟨⟨x1, x2⟩, hx⟩ : ∃ x, x = r.sp b := ⟨_, rfl⟩
      rw [← hx] at s0 s1 p0 p1 hbd hU
      dsimp only at s0 s1 p0 p1 hbd hU
      subst hsA hpA
      have m1 := mul_bd (u := (t : Int)) (v := g1) (a := 8) (b := 50) (by omega) (by omega) (by omega)
      have m2 := mul_bd (u := (t : Int)) (v := g2) (a := 8) (b := 50) (by omega) (by omega) (by omega)
      have a1 : IntKind.i64.wrap ((t : Int) * g1) = (t : Int) * g1 := IntWalk.i64_in _ (by omega)
      have a2 : IntKind.i64.wrap ((t : Int) * g2) = (t : Int) * g2 := IntWalk.i64_in _ (by omega)
      have a3 : IntKind.i64.wrap (x1 + (t : Int) * g1) = x1 + (t : Int) * g1 := IntWalk.i64_in _ (by omega)
      have a4 : IntKind.i64.wrap (x2 + (t : Int) * g2) = x2 + (t : Int) * g2 := IntWalk.i64_in _ (by omega)
      have A1 : (y1 == -1) = false ∧ (y1 != -1) = true ∧ y1 ≤ (t : Int) ∧ mo < x2 + (t : Int) * g2 ∨ (y1 == -1) = true ∧ (y1 != -1) = false ∧ ¬ mo < x2 + (t : Int) * g2 ∨ (y1 == -1) = false ∧ (y1 != -1) = true ∧ ¬ y1 ≤ (t : Int) ∧ ¬ mo < x2 + (t : Int) * g2 := by
        by_cases hh : mo < x2 + (t : Int) * g2
        · have := untilR_yes (z := x2) (y := g2) (mo := mo) (by omega) (show t ≤ 100 by omega) hh
          rw [← hU.1] at this
          exact .inl ⟨by simp [this.1], by simp [this.1], this.2, hh⟩
        · have := untilR_no (z := x2) (y := g2) (mo := mo) (by omega) (show t ≤ 100 by omega) hh
          rw [← hU.1] at this
          rcases this with h | h
          · exact .inr (.inl ⟨by simp [h], by simp [h], hh⟩)
          · exact .inr (.inr ⟨by simp [h.1], by simp [h.1], by omega, hh⟩)
      have A2 : (y2 == -1) = false ∧ (y2 != -1) = true ∧ y2 ≤ (t : Int) ∧ mo < x1 + (t : Int) * g1 ∨ (y2 == -1) = true ∧ (y2 != -1) = false ∧ ¬ mo < x1 + (t : Int) * g1 ∨ (y2 == -1) = false ∧ (y2 != -1) = true ∧ ¬ y2 ≤ (t : Int) ∧ ¬ mo < x1 + (t : Int) * g1 := by
        by_cases hh : mo < x1 + (t : Int) * g1
        · have := untilR_yes (z := x1) (y := g1) (mo := mo) (by omega) (show t ≤ 100 by omega) hh
          rw [← hU.2] at this
          exact .inl ⟨by simp [this.1], by simp [this.1], this.2, hh⟩
        · have := untilR_no (z := x1) (y := g1) (mo := mo) (by omega) (show t ≤ 100 by omega) hh
          rw [← hU.2] at this
          rcases this with h | h
          · exact .inr (.inl ⟨by simp [h], by simp [h], hh⟩)
          · exact .inr (.inr ⟨by simp [h.1], by simp [h.1], by omega, hh⟩)
      have AA := Lib.hid (And.intro A1 A2)
      have S := Lib.hid (And.intro s0 s1)
      have hnn : ((r.n : Int) != (r.n : Int)) = false := by simp
      have hbi : (b : Int) < (r.n : Int) := by omega
      have hb0 : (0 : Int) ≤ (b : Int) := by omega
      obtain ⟨q0, -, q2⟩ := HC2.out
      obtain ⟨q3, q4⟩ := q2
      replace q0 := cell_regrown q0
      replace q3 := cell_regrown q3
      replace q4 := cell_regrown q4
      replace p0 := cell_regrown p0
      replace p1 := cell_regrown p1
      replace s0 := cell_regrown s0
      replace s1 := cell_regrown s1
      clear A1 A2 hsr hpost hb2 hU hG hgg hx m1 m2 hbd hq0 hq1 hq2 hok7 HL HOD
      go_upto_region 16 with fail
      refine region_qbw (by kernel_rfl) (by kernel_rfl) ?_
      repeat (first | go_big_quiet_step ((go_at_call 20; exact Calls.regrown_of (span_fn _ _ _))) | quiet_step ((go_at_call 20; exact Calls.regrown_of (span_fn _ _ _))))
      refine wpQuiet_nil ?_; intro wq hbq
      have HL3 := Lib.hid (HL2.out.later hbq)
      have HC3 := Lib.hid (show N2c wq ux y1 y2 from ⟨cell_below_of hbq HC2.out.2.1.1, cell_below_of hbq HC2.out.2.1.2⟩)
      have s0 := cell_below_of hbq S.out.1
      have s1 := cell_below_of hbq S.out.2
      clear q0 q3 q4 p0 p1 hbq HL2 HC2 S a1 a2 a3 a4
      obtain ⟨q0, q1⟩ := HC3.out
      replace q0 := cell_regrown q0
      replace q1 := cell_regrown q1
      replace s0 := cell_regrown s0
      replace s1 := cell_regrown s1
      go_upto_region 18 with fail
      go_cut [161] from 126 to 161 (fun c wz => c = .bool false ∧ Hid (LtAt w wz m0 wx k r t bA bc vA vc (some ⟨pb, po, none⟩) (.slice dA (r.d + t) dc)))
      case first =>
        rcases AA.out.1 with ⟨h1, h2, h3, h4⟩ | ⟨h1, h2, h4⟩ | ⟨h1, h2, h3, h4⟩ <;> rcases AA.out.2 with ⟨k1, k2, k3, k4⟩ | ⟨k1, k2, k4⟩ | ⟨k1, k2, k3, k4⟩
        all_goals
          (try have h7 := Int.not_lt.2 h4)
          (try have h8 := Int.not_le.2 h3)
          (try have k7 := Int.not_lt.2 k4)
          (try have k8 := Int.not_le.2 k3)
          (try have c1 : (decide (y1 ≤ (t : Int)) == decide (mo < x2 + (t : Int) * g2)) = true := by rw [decide_eq_false h8, decide_eq_false h7]; rfl)
          refine region_qbw (by kernel_rfl) (by kernel_rfl) ?_
          repeat (first | go_big_quiet_step (fail) | quiet_step (fail))
          refine wpQuiet_nil ?_; intro wz hbq
          have HLQ := Lib.hid (HL3.out.later hbq)
          clear q0 q1 s0 s1 hbq
          go_wp2_with fail
          go_meet
          exact ⟨by first | rfl | (simp; done) | (simp; omega), HLQ⟩
      case rest =>
        obtain ⟨rfl, HLr⟩ := hcut
        clear q0 q1 s0 s1 AA HL3 HC3
        have HLQ := HLr
        have r1 := HLr.out.n.c1
        have rf1 := HLr.out.n.f1
        have hv1 := HLr.out.d.lt
        have hwl := HLr.out.n.lt
        obtain ⟨_, _, hpe, hpbl, _, _⟩ := HLr.out.p b hb
        injection hpe with hpe
        injection hpe with hpe1 hpe2
        subst hpe1 hpe2
        go_upto_region 14 with (at_builtin; refine wpList_append_lies _ rfl (.tmp 163) (.tmp 165) 24 rfl m0 58 i0 (.int .i64 0) 1 8 kds_under hi hz0 hz1 hz2 rfl (by decide) _ (r.d + t) (numCells (r.days k t).D (r.d + t)) rfl (HLr.out.d.alloc _) ⟨wc.heap.size, 0, none⟩ 1 1 [.int .i64 (k : Int)] rfl rfl (new_cells (cs := [.int .i64 (k : Int)])) (by intro u hu; simp only [List.mem_cons, List.not_mem_nil, or_false] at hu; subst hu; rfl) (by omega) (by unfold maxLen; omega) (by omega) (by simp; omega) (wc.heap.size + 1) (by simp) ?_; intro g cap w6 hown6 hgr6 hat6 hlt6; have s6 : w6.heap[wx]? = wc.heap[wx]? := (hgr6.block wx (by simp; omega) (fun e => HLQ.out.nw e.symm)).trans (Below.heap_alloc _ _ _ hwl); have a6 := cell_same s6 r1; have b6 := fro_same s6 rf1)
        have HL9 := Lib.hid (HLQ.out.put hpbl hown6 hgr6 hat6)
        clear hown6 hgr6 hat6 hlt6 s6 a6 b6 r1 rf1 hv1
        go_wp2_with fail
        go_roundw
        case rel => exact ⟨t + 1, _, by omega, by go_num, HL9⟩
        case measure => simp [intOf]; omega
    · have hlei : ¬ ((r.d + t : Nat) : Int) ≤ 7 := by omega
      have HF := Lib.hid HL.out.bel
      go_wp2_with fail
      all_goals exact HF
end Go.Proofs.Ytnnikeolgknfoaa
