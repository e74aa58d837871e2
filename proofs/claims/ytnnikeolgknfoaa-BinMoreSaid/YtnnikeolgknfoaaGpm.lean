/- BinMore: the joined statement. -/
import Derived.Test.YtnnikeolgknfoaaGqm
import Derived.Deep.CutBlock
import Derived.Test.YtnnikeolgknfoaaRows
import Derived.Test.YtnnikeolgknfoaaPo
import Derived.Test.YtnnikeolgknfoaaPr
set_option linter.unusedSimpArgs false
set_option linter.unusedVariables false
namespace Go.Proofs.Ytnnikeolgknfoaa
open Go.RowKit Go.Shelf

theorem wg_at {w : World} {B : Nat} {r : Rw} {bA dA vA : Option Addr} {bc dc vc vb vo j : Nat} (h : RwRow w B r bA bc dA dc vA vc) (hA : vA = some ⟨vb, vo, none⟩) (hj : j < r.m) : w.cell? ⟨vb, vo + j * 4, none⟩ = some (.int .i64 (r.V j).f) ∧ w.cell? ⟨vb, vo + j * 4 + 1, none⟩ = some (.int .i64 (r.V j).t) ∧ w.cell? ⟨vb, vo + j * 4 + 2, none⟩ = some (.int .i64 (r.V j).p) ∧ w.cell? ⟨vb, vo + j * 4 + 3, none⟩ = some (.int .i64 (r.V j).e) := by
  obtain ⟨b, o, hA', hb, c⟩ := h.v j hj
  rw [hA] at hA'
  injection hA' with hA'
  injection hA' with h1 h2
  subst h1 h2
  exact c
/-- .. three whole -/
structure Mo5 (W w : World) (s0 E0 rx qb : Nat) (r : Rw) (X : Nat → Int) (bA dA vA xA : Option Addr) (bc dc vc : Nat) (tA : Option Addr) (tn tc : Nat) (C : Nat → Cp) (z : Nat → Nat) (f mm t : Rw) : Prop where
  mb : MoB W w s0 rx qb r X bA dA vA xA bc dc vc tA tn tc
  sp : SepN s0 E0 C z
  f : OkF w E0 C z 0 f
  m : OkF w E0 C z 1 mm
  t : OkF w E0 C z 2 t
  b3 : CpBox w r (C 3) (z 3)
  l : s0 ≤ E0 ∧ E0 ≤ w.heap.size
theorem Mo5.pull {W w w' : World} {s0 E0 rx qb : Nat} {r : Rw} {X : Nat → Int} {bA dA vA xA : Option Addr} {bc dc vc : Nat} {tA : Option Addr} {tn tc : Nat} {C : Nat → Cp} {z : Nat → Nat} {f mm t : Rw} (h : Mo5 W w s0 E0 rx qb r X bA dA vA xA bc dc vc tA tn tc C z f mm t) (hg : w.grownBy w' (some qb)) (hq : Chute w' W.heap.size qb tA tn tc) : Mo5 W w' s0 E0 rx qb r X bA dA vA xA bc dc vc tA tn tc C z f mm t := by
  have hbd := h.mb.bd
  have hl := h.l
  exact ⟨h.mb.pull hg hq, h.sp, h.f.pull h.sp (by omega) hbd.2.2 hl.1 hg, h.m.pull h.sp (by omega) hbd.2.2 hl.1 hg, h.t.pull h.sp (by omega) hbd.2.2 hl.1 hg, h.b3.pull hg (h.sp.lo (by omega)) hbd.2.2, by have := hg.size; omega⟩
theorem Mo5.later {W w w' : World} {s0 E0 rx qb : Nat} {r : Rw} {X : Nat → Int} {bA dA vA xA : Option Addr} {bc dc vc : Nat} {tA : Option Addr} {tn tc : Nat} {C : Nat → Cp} {z : Nat → Nat} {f mm t : Rw} (h : Mo5 W w s0 E0 rx qb r X bA dA vA xA bc dc vc tA tn tc C z f mm t) (hb : Below w.heap.size w w') : Mo5 W w' s0 E0 rx qb r X bA dA vA xA bc dc vc tA tn tc C z f mm t := by
  have hl := h.l
  exact ⟨h.mb.keep (hb.mono (by omega)), h.sp, h.f.later hb, h.m.later hb, h.t.later hb, h.b3.later hb, by have := hb.size; omega⟩
theorem Mo5.loose {W w : World} {s0 E0 rx qb : Nat} {r : Rw} {X : Nat → Int} {bA dA vA xA : Option Addr} {bc dc vc : Nat} {tA : Option Addr} {tn tc : Nat} {C : Nat → Cp} {z : Nat → Nat} {f mm t : Rw} {j g : Nat} {x : Int} (h : Mo5 W w s0 E0 rx qb r X bA dA vA xA bc dc vc tA tn tc C z f mm t) (hr : r.ok) (hj : j < r.m) (hx : 0 ≤ x) (h100 : (r.V j).e + x ≤ 100) (hA : (C 3).vA = some ⟨g, 0, none⟩) :
    Mo4 W (w.setCell ⟨g, j * 4 + 3, none⟩ (.int .i64 ((r.V j).e + x))) s0 E0 rx qb r X bA dA vA xA bc dc vc tA tn tc C z f mm t (r.wgs (loosV r.V j x)) ∧ s0 ≤ (w.setCell ⟨g, j * 4 + 3, none⟩ (.int .i64 ((r.V j).e + x))).heap.size := by
  have hl := h.l
  have lo := h.sp.lo (j := 3) (by omega)
  obtain ⟨h1, h2, h3⟩ := h.b3.loose hr hj hx h100 hA (h.sp.ac 3 3 (by omega) (by omega)) (S := fun i => own (C 3) (z 3) i ∨ E0 ≤ i) (fun i hi => .inl hi)
  have hb : Below s0 w (w.setCell ⟨g, j * 4 + 3, none⟩ (.int .i64 ((r.V j).e + x))) := (Below.refl _ w).setCell (by dsimp only; omega) _
  exact ⟨⟨h.mb.keep hb, h.f.keep h.sp (by omega) (by omega) (by omega) (fun q _ hq => h2 q hq) hb.size, h.m.keep h.sp (by omega) (by omega) (by omega) (fun q _ hq => h2 q hq) hb.size, h.t.keep h.sp (by omega) (by omega) (by omega) (fun q _ hq => h2 q hq) hb.size, h1⟩, by have := hb.size; omega⟩

set_option maxRecDepth 100000 in
set_option maxHeartbeats 8000000 in
theorem more_reg15 (W : World) (s0 E0 rx qb : Nat) (r : Rw) (HOK : Hid r.ok) (X : Nat → Int) (bA dA vA xA : Option Addr) (bc dc vc : Nat) (tA : Option Addr) (tn tc : Nat) (hln2 : tn ≤ 9223372036854775807) (C : Nat → Cp) (z : Nat → Nat) (f mm : Rw) (hm5 : r.m ≤ 5) (hm0 : 0 < r.m) (hvc : r.m ≤ vc) {u0 u1 u2 u3 u4 u6 u8 u9 u11 u12 u13 u14 u15 u16 u17 u18 u19 u20 u21 u22 u23 u24 u25 u26 u27 u28 u29 u30 u31 u32 u33 u34 u35 u36 u37 u38 u39 u40 u41 u42 u43 u44 u45 u46 u47 u48 u49 u50 u51 u52 u53 u54 u55 u56 u57 u58 u59 u60 u61 u62 u63 u64 u65 u66 u67 u68 u69 u70 u71 u72 u73 u74 u75 u76 u77 u78 u79 u80 u81 u82 u83 u84 u85 u86 u87 u88 u89 u90 u91 u92 u93 u94 u95 u96 u97 u98 u99 u100 u101 u102 u103 u104 u105 u106 u107 u108 u109 u110 u111 u112 u113 u114 u115 u116 u117 u118 u119 u120 u121 u122 u123 u124 u125 u126 u127 u128 u129 u130 u131 u132 u133 u134 u135 u136 u137 u138 u139 u140 u141 u142 u143 u144 u145 u146 u147 u148 u149 u150 u151 u152 u153 u154 u155 u156 u157 u158 u159 u160 u161 u162 u163 u164 u165 u166 u167 u168 u169 u170 u171 u172 u173 u174 u175 u176 u177 u178 u179 u180 u181 u182 u183 u184 u185 u186 u187 u188 u189 u190 u191 u192 u193 u194 u195 u196 u197 u198 u199 u200 u201 u202 u203 u204 u205 u206 u207 u208 u209 u210 u211 u212 u213 u214 u215 u216 u217 u218 u219 u220 u221 u222 u223 u224 u225 u226 u227 u228 u229 : Value} (w12 : World)
    (H3 : Hid (Mo3 W w12 s0 E0 rx qb r X bA dA vA xA bc dc vc tA tn tc C z f mm))
    (Q : Exit → Act → World → Prop) (hK : ∀ {x83 x84 x85 x86 x87 x88 x89 x90 x91 x92 x93 x94 x95 x96 : Value} (j : Nat) (w' : World), j < r.m → Hid (Mo5 W w' s0 E0 rx qb r X bA dA vA xA bc dc vc tA tn tc C z f mm (r.more (r.V j))) → Q .normal ⟨(List.toArray (u0 :: u1 :: u2 :: u3 :: u4 :: (.pointer (some ⟨rx, 0, none⟩)) :: u6 :: (.pointer (some ⟨qb, 0, none⟩)) :: u8 :: u9 :: (.pointer (some ⟨z 2, 0, none⟩)) :: u11 :: u12 :: u13 :: u14 :: u15 :: u16 :: u17 :: u18 :: u19 :: u20 :: u21 :: u22 :: u23 :: u24 :: u25 :: u26 :: u27 :: u28 :: u29 :: u30 :: u31 :: u32 :: u33 :: u34 :: u35 :: u36 :: u37 :: u38 :: u39 :: u40 :: u41 :: u42 :: u43 :: u44 :: u45 :: u46 :: u47 :: u48 :: u49 :: u50 :: u51 :: u52 :: u53 :: u54 :: u55 :: u56 :: u57 :: u58 :: u59 :: u60 :: u61 :: u62 :: u63 :: u64 :: u65 :: u66 :: u67 :: u68 :: u69 :: u70 :: u71 :: u72 :: u73 :: u74 :: u75 :: u76 :: u77 :: u78 :: u79 :: u80 :: u81 :: u82 :: x83 :: x84 :: x85 :: x86 :: x87 :: x88 :: x89 :: x90 :: x91 :: x92 :: x93 :: x94 :: x95 :: x96 :: u97 :: u98 :: u99 :: u100 :: u101 :: u102 :: u103 :: u104 :: u105 :: u106 :: u107 :: u108 :: u109 :: u110 :: u111 :: u112 :: u113 :: u114 :: u115 :: u116 :: u117 :: u118 :: u119 :: u120 :: u121 :: u122 :: u123 :: u124 :: u125 :: u126 :: u127 :: u128 :: u129 :: u130 :: u131 :: u132 :: u133 :: u134 :: u135 :: u136 :: u137 :: u138 :: u139 :: u140 :: u141 :: u142 :: u143 :: u144 :: u145 :: u146 :: u147 :: u148 :: u149 :: u150 :: u151 :: u152 :: u153 :: u154 :: u155 :: u156 :: u157 :: u158 :: u159 :: u160 :: u161 :: u162 :: u163 :: u164 :: u165 :: u166 :: u167 :: u168 :: u169 :: u170 :: u171 :: u172 :: u173 :: u174 :: u175 :: u176 :: u177 :: u178 :: u179 :: u180 :: u181 :: u182 :: u183 :: u184 :: u185 :: u186 :: u187 :: u188 :: u189 :: u190 :: u191 :: u192 :: u193 :: u194 :: u195 :: u196 :: u197 :: u198 :: u199 :: u200 :: u201 :: u202 :: u203 :: u204 :: u205 :: u206 :: u207 :: u208 :: u209 :: u210 :: u211 :: u212 :: u213 :: u214 :: u215 :: u216 :: u217 :: u218 :: u219 :: u220 :: u221 :: u222 :: u223 :: u224 :: u225 :: u226 :: u227 :: u228 :: u229 :: [])), []⟩ w') :
    Code.wp Try.prog (rgIn Try.f3 15) Q ⟨(List.toArray (u0 :: u1 :: u2 :: u3 :: u4 :: (.pointer (some ⟨rx, 0, none⟩)) :: u6 :: (.pointer (some ⟨qb, 0, none⟩)) :: u8 :: u9 :: (.pointer (some ⟨z 2, 0, none⟩)) :: u11 :: u12 :: u13 :: u14 :: u15 :: u16 :: u17 :: u18 :: u19 :: u20 :: u21 :: u22 :: u23 :: u24 :: u25 :: u26 :: u27 :: u28 :: u29 :: u30 :: u31 :: u32 :: u33 :: u34 :: u35 :: u36 :: u37 :: u38 :: u39 :: u40 :: u41 :: u42 :: u43 :: u44 :: u45 :: u46 :: u47 :: u48 :: u49 :: u50 :: u51 :: u52 :: u53 :: u54 :: u55 :: u56 :: u57 :: u58 :: u59 :: u60 :: u61 :: u62 :: u63 :: u64 :: u65 :: u66 :: u67 :: u68 :: u69 :: u70 :: u71 :: u72 :: u73 :: u74 :: u75 :: u76 :: u77 :: u78 :: u79 :: u80 :: u81 :: u82 :: u83 :: u84 :: u85 :: u86 :: u87 :: u88 :: u89 :: u90 :: u91 :: u92 :: u93 :: u94 :: u95 :: u96 :: u97 :: u98 :: u99 :: u100 :: u101 :: u102 :: u103 :: u104 :: u105 :: u106 :: u107 :: u108 :: u109 :: u110 :: u111 :: u112 :: u113 :: u114 :: u115 :: u116 :: u117 :: u118 :: u119 :: u120 :: u121 :: u122 :: u123 :: u124 :: u125 :: u126 :: u127 :: u128 :: u129 :: u130 :: u131 :: u132 :: u133 :: u134 :: u135 :: u136 :: u137 :: u138 :: u139 :: u140 :: u141 :: u142 :: u143 :: u144 :: u145 :: u146 :: u147 :: u148 :: u149 :: u150 :: u151 :: u152 :: u153 :: u154 :: u155 :: u156 :: u157 :: u158 :: u159 :: u160 :: u161 :: u162 :: u163 :: u164 :: u165 :: u166 :: u167 :: u168 :: u169 :: u170 :: u171 :: u172 :: u173 :: u174 :: u175 :: u176 :: u177 :: u178 :: u179 :: u180 :: u181 :: u182 :: u183 :: u184 :: u185 :: u186 :: u187 :: u188 :: u189 :: u190 :: u191 :: u192 :: u193 :: u194 :: u195 :: u196 :: u197 :: u198 :: u199 :: u200 :: u201 :: u202 :: u203 :: u204 :: u205 :: u206 :: u207 :: u208 :: u209 :: u210 :: u211 :: u212 :: u213 :: u214 :: u215 :: u216 :: u217 :: u218 :: u219 :: u220 :: u221 :: u222 :: u223 :: u224 :: u225 :: u226 :: u227 :: u228 :: u229 :: [])), []⟩ w12 := by
  (conv => arg 2; whnf)
  obtain ⟨i0, hi, hz0, hz1, hz2⟩ := info_parts infoWg
  have hbd3 := H3.out.mb.bd
  have hl3 := H3.out.l
  have e2 := H3.out.mb.at_.c2
  have hpp : (0 : Int) < ((r.m : Nat) : Int) := by omega
  obtain ⟨vb, vo, hvA, hvl, -⟩ := H3.out.mb.row.v 0 (by omega)
  have HVA := Lib.hid hvA
  have e2z := e2
  have m2 := H3.out.b2.bx.c2
  have mf := H3.out.b2.bx.f2
  have hzz2 := H3.out.sp.zz 2 (by omega)
  have hlv := fun q (hq : (Value.slice (C 2).vA r.m (C 2).vc).ownBlock = some q) => H3.out.b2.cp.vl q hq
  have hcm := H3.out.b2.cp.sm
  have hcme := H3.out.b2.cp.me
  have hce0 := H3.out.b2.cp.e
  have hac := H3.out.sp.ac 2 2 (by omega) (by omega)
  have hcs := H3.out.sp.s 2 (by omega)
  have hz2l := H3.out.b2.bx.lt
  have hq2 : z 2 ≠ qb ∧ rx ≠ qb ∧ z 2 ≠ rx := by omega
  rw [hvA] at e2
  clear hvA
  refine wp_region_noPanic ?_
  go_region_law (first | (go_simp; go_at_call 13; refine (pull_any W.heap.size qb tA tn tc (r.m : Int) (by omega) hln2 _ (H3.out.mb.q.later (by repeat (first | (with_reducible exact Below.refl _ _) | (with_reducible assumption) | (with_reducible refine Below.drew ?_) | ((with_reducible refine below_alloc ?_ ?_ _); (· (first | exact Nat.le_refl _ | omega | (dsimp only; omega) | (simp only [World.size_alloc, World.size_drew, World.heap_drewN]; omega) | (simp; omega)))) | ((with_reducible refine below_set ?_ ?_ _); (· (first | exact Nat.le_refl _ | omega | (dsimp only; omega) | (simp only [World.size_alloc, World.size_drew, World.heap_drewN]; omega) | (simp; omega)))) | ((with_reducible refine below_via (by with_reducible assumption) ?_ ?_); (· (first | exact Nat.le_refl _ | omega | (dsimp only; omega) | (simp only [World.size_alloc, World.size_drew, World.heap_drewN]; omega) | (simp; omega)))))))).mono ?_; rintro e w13 ⟨j, rfl, hj0, hj1, hg13, hc13⟩; obtain ⟨j, rfl⟩ := Int.eq_ofNat_of_zero_le hj0; have hjm : j < r.m := (by omega); have hjn : (j : Int) < ((r.m : Nat) : Int) := (by omega); have hjz : (0 : Int) ≤ (j : Int) := (by omega); have H13 := Lib.hid ((H3.out.later (show Below w12.heap.size w12 _ from (by repeat (first | (with_reducible exact Below.refl _ _) | (with_reducible assumption) | (with_reducible refine Below.drew ?_) | ((with_reducible refine below_alloc ?_ ?_ _); (· (first | exact Nat.le_refl _ | omega | (dsimp only; omega) | (simp only [World.size_alloc, World.size_drew, World.heap_drewN]; omega) | (simp; omega)))) | ((with_reducible refine below_set ?_ ?_ _); (· (first | exact Nat.le_refl _ | omega | (dsimp only; omega) | (simp only [World.size_alloc, World.size_drew, World.heap_drewN]; omega) | (simp; omega)))) | ((with_reducible refine below_via (by with_reducible assumption) ?_ ?_); (· (first | exact Nat.le_refl _ | omega | (dsimp only; omega) | (simp only [World.size_alloc, World.size_drew, World.heap_drewN]; omega) | (simp; omega)))))))).pull hg13 hc13); have e13 := H13.out.mb.at_.c2; rw [HVA.out] at e13; have m13 := H13.out.b2.bx.c2; have mf13 := H13.out.b2.bx.f2; have hd13 := wg_at H13.out.mb.row HVA.out hjm; obtain ⟨d0, d1, d2, d3⟩ := hd13; have hz13 := H13.out.b2.bx.lt; have hE13 := H13.out.l; have hcE13 := H13.out.b2.cp.e) | (refine step_append_lies _ (by rfl) (.tmp 84) (.tmp 94) 25 (by rfl) (C 2).m 35 i0 (.agg #[.int .i64 0, .int .i64 0, .int .i64 0, .int .i64 0]) 4 32 wgs_under hi hz0 hz1 hz2 (by rfl) (by decide) (.slice (C 2).vA r.m (C 2).vc) r.m (rowC wgC r.V r.m) (by rfl) (H13.out.b2.cp.v.alloc _) ⟨w13.heap.size, 0, none⟩ 1 1 (wgC (r.V j)) (by rfl) rfl (fun jj uu hjj => new_cells (w := w13) (t := 35) (cs := wgC (r.V j)) jj uu hjj) (wgC_one (r.V j)) (by omega) (by unfold maxLen; omega) (by omega) (by (first | omega | (simp only [World.size_alloc, World.size_drew]; omega) | (simp; done) | (simp; omega))) (w13.heap.size + 1) (by simp) ?_; intro g cap w6 hown6 hgr6 hat6 hlt6; have s6 : w6.heap[z 2]? = w13.heap[z 2]? := (hgr6.block _ (by (first | omega | (simp only [World.size_alloc, World.size_drew]; omega) | (simp; done) | (simp; omega))) (fun e => by have := hlv _ e.symm; omega)).trans (Below.heap_alloc _ _ _ (by (first | omega | (simp only [World.size_alloc, World.size_drew]; omega) | (simp; done) | (simp; omega)))); have a6 := cell_same s6 m13; have b6 := fro_same s6 mf13; have r6 : w6.heap[rx]? = w13.heap[rx]? := (hgr6.block _ (by (first | omega | (simp only [World.size_alloc, World.size_drew]; omega) | (simp; done) | (simp; omega))) (fun e => by have := hlv _ e.symm; omega)).trans (Below.heap_alloc _ _ _ (by (first | omega | (simp only [World.size_alloc, World.size_drew]; omega) | (simp; done) | (simp; omega)))); have ra6 := cell_same r6 e13))
  all_goals
    refine NoPanic.normal ?_
    have htw := H13.out.twice HOK.out (by omega) (HOK.out.v j hjm) hown6 hgr6 hat6
    exact hK j _ hjm (Lib.hid (by
      obtain ⟨w', rfl, h1, h2, h3, h4, h5, h6⟩ := htw
      exact ⟨h1, H13.out.sp, h2, h3, h4, h5, by omega⟩))
end Go.Proofs.Ytnnikeolgknfoaa

set_option linter.unusedSimpArgs false
set_option linter.unusedVariables false
namespace Go.Proofs.Ytnnikeolgknfoaa
open Go.RowKit Go.Shelf

theorem Mo5.own3 {W w : World} {s0 E0 rx qb : Nat} {r : Rw} {X : Nat → Int} {bA dA vA xA : Option Addr} {bc dc vc : Nat} {tA : Option Addr} {tn tc : Nat} {C : Nat → Cp} {z : Nat → Nat} {f mm t : Rw} (h : Mo5 W w s0 E0 rx qb r X bA dA vA xA bc dc vc tA tn tc C z f mm t) {j : Nat} (hj : j < r.m) : ∃ g, (C 3).vA = some ⟨g, 0, none⟩ ∧ w.cell? ⟨g, j * 4 + 3, none⟩ = some (.int .i64 (r.V j).e) ∧ w.frozen? ⟨g, j * 4 + 3, none⟩ = false := by
  obtain ⟨A, c, e0, ho, hvc⟩ := OwnWg.of h.b3.cp.v
  injection e0 with e1 e2 e3
  obtain ⟨g, hA, hl, c0, c1, c2, c3, hf⟩ := ho j hj
  exact ⟨g, by rw [e1, hA], c3, hf _⟩
set_option maxRecDepth 100000 in
set_option maxHeartbeats 8000000 in
theorem more_reg16 (W : World) (s0 E0 rx qb : Nat) (r : Rw) (HOK : Hid r.ok) (HE : Hid (∀ j, j < r.m → 0 ≤ (r.V j).e ∧ (r.V j).e ≤ 6)) (X : Nat → Int) (bA dA vA xA : Option Addr) (bc dc vc : Nat) (tA : Option Addr) (tn tc : Nat) (hln2 : tn ≤ 9223372036854775807) (C : Nat → Cp) (z : Nat → Nat) (f mm t : Rw) (hm5 : r.m ≤ 5) (hm0 : 0 < r.m) (hvc : r.m ≤ vc) {u0 u1 u2 u3 u4 u6 u8 u9 u10 u12 u13 u14 u15 u16 u17 u18 u19 u20 u21 u22 u23 u24 u25 u26 u27 u28 u29 u30 u31 u32 u33 u34 u35 u36 u37 u38 u39 u40 u41 u42 u43 u44 u45 u46 u47 u48 u49 u50 u51 u52 u53 u54 u55 u56 u57 u58 u59 u60 u61 u62 u63 u64 u65 u66 u67 u68 u69 u70 u71 u72 u73 u74 u75 u76 u77 u78 u79 u80 u81 u82 u83 u84 u85 u86 u87 u88 u89 u90 u91 u92 u93 u94 u95 u96 u97 u98 u99 u100 u101 u102 u103 u104 u105 u106 u107 u108 u109 u110 u111 u112 u113 u114 u115 u116 u117 u118 u119 u120 u121 u122 u123 u124 u125 u126 u127 u128 u129 u130 u131 u132 u133 u134 u135 u136 u137 u138 u139 u140 u141 u142 u143 u144 u145 u146 u147 u148 u149 u150 u151 u152 u153 u154 u155 u156 u157 u158 u159 u160 u161 u162 u163 u164 u165 u166 u167 u168 u169 u170 u171 u172 u173 u174 u175 u176 u177 u178 u179 u180 u181 u182 u183 u184 u185 u186 u187 u188 u189 u190 u191 u192 u193 u194 u195 u196 u197 u198 u199 u200 u201 u202 u203 u204 u205 u206 u207 u208 u209 u210 u211 u212 u213 u214 u215 u216 u217 u218 u219 u220 u221 u222 u223 u224 u225 u226 u227 u228 u229 : Value} (w12 : World)
    (H5 : Hid (Mo5 W w12 s0 E0 rx qb r X bA dA vA xA bc dc vc tA tn tc C z f mm t))
    (Q : Exit → Act → World → Prop) (hK : ∀ {x97 x98 x99 x100 x101 x102 x103 x104 x105 x106 x107 x108 x109 x110 x111 : Value} (j : Nat) (x : Int) (w' : World), j < r.m → 0 ≤ x → (r.V j).e + x ≤ 100 → Hid (Mo4 W w' s0 E0 rx qb r X bA dA vA xA bc dc vc tA tn tc C z f mm t (r.wgs (loosV r.V j x))) → s0 ≤ w'.heap.size → Q .normal ⟨(List.toArray (u0 :: u1 :: u2 :: u3 :: u4 :: (.pointer (some ⟨rx, 0, none⟩)) :: u6 :: (.pointer (some ⟨qb, 0, none⟩)) :: u8 :: u9 :: u10 :: (.pointer (some ⟨z 3, 0, none⟩)) :: u12 :: u13 :: u14 :: u15 :: u16 :: u17 :: u18 :: u19 :: u20 :: u21 :: u22 :: u23 :: u24 :: u25 :: u26 :: u27 :: u28 :: u29 :: u30 :: u31 :: u32 :: u33 :: u34 :: u35 :: u36 :: u37 :: u38 :: u39 :: u40 :: u41 :: u42 :: u43 :: u44 :: u45 :: u46 :: u47 :: u48 :: u49 :: u50 :: u51 :: u52 :: u53 :: u54 :: u55 :: u56 :: u57 :: u58 :: u59 :: u60 :: u61 :: u62 :: u63 :: u64 :: u65 :: u66 :: u67 :: u68 :: u69 :: u70 :: u71 :: u72 :: u73 :: u74 :: u75 :: u76 :: u77 :: u78 :: u79 :: u80 :: u81 :: u82 :: u83 :: u84 :: u85 :: u86 :: u87 :: u88 :: u89 :: u90 :: u91 :: u92 :: u93 :: u94 :: u95 :: u96 :: x97 :: x98 :: x99 :: x100 :: x101 :: x102 :: x103 :: x104 :: x105 :: x106 :: x107 :: x108 :: x109 :: x110 :: x111 :: u112 :: u113 :: u114 :: u115 :: u116 :: u117 :: u118 :: u119 :: u120 :: u121 :: u122 :: u123 :: u124 :: u125 :: u126 :: u127 :: u128 :: u129 :: u130 :: u131 :: u132 :: u133 :: u134 :: u135 :: u136 :: u137 :: u138 :: u139 :: u140 :: u141 :: u142 :: u143 :: u144 :: u145 :: u146 :: u147 :: u148 :: u149 :: u150 :: u151 :: u152 :: u153 :: u154 :: u155 :: u156 :: u157 :: u158 :: u159 :: u160 :: u161 :: u162 :: u163 :: u164 :: u165 :: u166 :: u167 :: u168 :: u169 :: u170 :: u171 :: u172 :: u173 :: u174 :: u175 :: u176 :: u177 :: u178 :: u179 :: u180 :: u181 :: u182 :: u183 :: u184 :: u185 :: u186 :: u187 :: u188 :: u189 :: u190 :: u191 :: u192 :: u193 :: u194 :: u195 :: u196 :: u197 :: u198 :: u199 :: u200 :: u201 :: u202 :: u203 :: u204 :: u205 :: u206 :: u207 :: u208 :: u209 :: u210 :: u211 :: u212 :: u213 :: u214 :: u215 :: u216 :: u217 :: u218 :: u219 :: u220 :: u221 :: u222 :: u223 :: u224 :: u225 :: u226 :: u227 :: u228 :: u229 :: [])), []⟩ w') :
    Code.wp Try.prog (rgIn Try.f3 16) Q ⟨(List.toArray (u0 :: u1 :: u2 :: u3 :: u4 :: (.pointer (some ⟨rx, 0, none⟩)) :: u6 :: (.pointer (some ⟨qb, 0, none⟩)) :: u8 :: u9 :: u10 :: (.pointer (some ⟨z 3, 0, none⟩)) :: u12 :: u13 :: u14 :: u15 :: u16 :: u17 :: u18 :: u19 :: u20 :: u21 :: u22 :: u23 :: u24 :: u25 :: u26 :: u27 :: u28 :: u29 :: u30 :: u31 :: u32 :: u33 :: u34 :: u35 :: u36 :: u37 :: u38 :: u39 :: u40 :: u41 :: u42 :: u43 :: u44 :: u45 :: u46 :: u47 :: u48 :: u49 :: u50 :: u51 :: u52 :: u53 :: u54 :: u55 :: u56 :: u57 :: u58 :: u59 :: u60 :: u61 :: u62 :: u63 :: u64 :: u65 :: u66 :: u67 :: u68 :: u69 :: u70 :: u71 :: u72 :: u73 :: u74 :: u75 :: u76 :: u77 :: u78 :: u79 :: u80 :: u81 :: u82 :: u83 :: u84 :: u85 :: u86 :: u87 :: u88 :: u89 :: u90 :: u91 :: u92 :: u93 :: u94 :: u95 :: u96 :: u97 :: u98 :: u99 :: u100 :: u101 :: u102 :: u103 :: u104 :: u105 :: u106 :: u107 :: u108 :: u109 :: u110 :: u111 :: u112 :: u113 :: u114 :: u115 :: u116 :: u117 :: u118 :: u119 :: u120 :: u121 :: u122 :: u123 :: u124 :: u125 :: u126 :: u127 :: u128 :: u129 :: u130 :: u131 :: u132 :: u133 :: u134 :: u135 :: u136 :: u137 :: u138 :: u139 :: u140 :: u141 :: u142 :: u143 :: u144 :: u145 :: u146 :: u147 :: u148 :: u149 :: u150 :: u151 :: u152 :: u153 :: u154 :: u155 :: u156 :: u157 :: u158 :: u159 :: u160 :: u161 :: u162 :: u163 :: u164 :: u165 :: u166 :: u167 :: u168 :: u169 :: u170 :: u171 :: u172 :: u173 :: u174 :: u175 :: u176 :: u177 :: u178 :: u179 :: u180 :: u181 :: u182 :: u183 :: u184 :: u185 :: u186 :: u187 :: u188 :: u189 :: u190 :: u191 :: u192 :: u193 :: u194 :: u195 :: u196 :: u197 :: u198 :: u199 :: u200 :: u201 :: u202 :: u203 :: u204 :: u205 :: u206 :: u207 :: u208 :: u209 :: u210 :: u211 :: u212 :: u213 :: u214 :: u215 :: u216 :: u217 :: u218 :: u219 :: u220 :: u221 :: u222 :: u223 :: u224 :: u225 :: u226 :: u227 :: u228 :: u229 :: [])), []⟩ w12 := by
  (conv => arg 2; whnf)
  have hbd3 := H5.out.mb.bd
  have hl3 := H5.out.l
  have e2 := H5.out.mb.at_.c2
  have hpp : (0 : Int) < ((r.m : Nat) : Int) := by omega
  obtain ⟨g, hvA, -, -⟩ := H5.out.own3 hm0
  have HVA := Lib.hid hvA
  have m2 := H5.out.b3.bx.c2
  rw [hvA] at m2
  have hcap := H5.out.b3.cp.cap.2.2
  clear hvA
  refine wp_region_noPanic ?_
  go_region_law (first | (have mk := H13; go_simp; go_at_call 13; refine (pull_any W.heap.size qb tA tn tc 9 (by omega) hln2 _ (H13.out.mb.q.later (by repeat (first | (with_reducible exact Below.refl _ _) | (with_reducible assumption) | (with_reducible refine Below.drew ?_) | ((with_reducible refine below_alloc ?_ ?_ _); (· (first | exact Nat.le_refl _ | omega | (dsimp only; omega) | (simp only [World.size_alloc, World.size_drew, World.heap_drewN]; omega) | (simp; omega)))) | ((with_reducible refine below_set ?_ ?_ _); (· (first | exact Nat.le_refl _ | omega | (dsimp only; omega) | (simp only [World.size_alloc, World.size_drew, World.heap_drewN]; omega) | (simp; omega)))) | ((with_reducible refine below_via (by with_reducible assumption) ?_ ?_); (· (first | exact Nat.le_refl _ | omega | (dsimp only; omega) | (simp only [World.size_alloc, World.size_drew, World.heap_drewN]; omega) | (simp; omega)))))))).mono ?_; rintro e w14 ⟨x, rfl, hx0, hx1, hg14, hc14⟩; have H14 := Lib.hid ((H13.out.later (show Below w13.heap.size w13 _ from (by repeat (first | (with_reducible exact Below.refl _ _) | (with_reducible assumption) | (with_reducible refine Below.drew ?_) | ((with_reducible refine below_alloc ?_ ?_ _); (· (first | exact Nat.le_refl _ | omega | (dsimp only; omega) | (simp only [World.size_alloc, World.size_drew, World.heap_drewN]; omega) | (simp; omega)))) | ((with_reducible refine below_set ?_ ?_ _); (· (first | exact Nat.le_refl _ | omega | (dsimp only; omega) | (simp only [World.size_alloc, World.size_drew, World.heap_drewN]; omega) | (simp; omega)))) | ((with_reducible refine below_via (by with_reducible assumption) ?_ ?_); (· (first | exact Nat.le_refl _ | omega | (dsimp only; omega) | (simp only [World.size_alloc, World.size_drew, World.heap_drewN]; omega) | (simp; omega)))))))).pull hg14 hc14); obtain ⟨g14, hgA14, d3, f3⟩ := H14.out.own3 hjm; rw [HVA.out] at hgA14; injection hgA14 with hgA14; injection hgA14 with hgA14; subst hgA14; have m14 := H14.out.b3.bx.c2; rw [HVA.out] at m14; have hej := HE.out j hjm; have hw : IntKind.i64.wrap ((r.V j).e + x) = (r.V j).e + x := (IntWalk.i64_in _ (by omega))) | (go_simp; go_at_call 13; refine (pull_any W.heap.size qb tA tn tc (r.m : Int) (by omega) hln2 _ (H5.out.mb.q.later (by repeat (first | (with_reducible exact Below.refl _ _) | (with_reducible assumption) | (with_reducible refine Below.drew ?_) | ((with_reducible refine below_alloc ?_ ?_ _); (· (first | exact Nat.le_refl _ | omega | (dsimp only; omega) | (simp only [World.size_alloc, World.size_drew, World.heap_drewN]; omega) | (simp; omega)))) | ((with_reducible refine below_set ?_ ?_ _); (· (first | exact Nat.le_refl _ | omega | (dsimp only; omega) | (simp only [World.size_alloc, World.size_drew, World.heap_drewN]; omega) | (simp; omega)))) | ((with_reducible refine below_via (by with_reducible assumption) ?_ ?_); (· (first | exact Nat.le_refl _ | omega | (dsimp only; omega) | (simp only [World.size_alloc, World.size_drew, World.heap_drewN]; omega) | (simp; omega)))))))).mono ?_; rintro e w13 ⟨j, rfl, hj0, hj1, hg13, hc13⟩; obtain ⟨j, rfl⟩ := Int.eq_ofNat_of_zero_le hj0; have hjm : j < r.m := (by omega); have hjn : (j : Int) < ((r.m : Nat) : Int) := (by omega); have hjz : (0 : Int) ≤ (j : Int) := (by omega); have H13 := Lib.hid ((H5.out.later (show Below w12.heap.size w12 _ from (by repeat (first | (with_reducible exact Below.refl _ _) | (with_reducible assumption) | (with_reducible refine Below.drew ?_) | ((with_reducible refine below_alloc ?_ ?_ _); (· (first | exact Nat.le_refl _ | omega | (dsimp only; omega) | (simp only [World.size_alloc, World.size_drew, World.heap_drewN]; omega) | (simp; omega)))) | ((with_reducible refine below_set ?_ ?_ _); (· (first | exact Nat.le_refl _ | omega | (dsimp only; omega) | (simp only [World.size_alloc, World.size_drew, World.heap_drewN]; omega) | (simp; omega)))) | ((with_reducible refine below_via (by with_reducible assumption) ?_ ?_); (· (first | exact Nat.le_refl _ | omega | (dsimp only; omega) | (simp only [World.size_alloc, World.size_drew, World.heap_drewN]; omega) | (simp; omega)))))))).pull hg13 hc13); obtain ⟨g13, hgA13, d13, f13⟩ := H13.out.own3 hjm; rw [HVA.out] at hgA13; injection hgA13 with hgA13; injection hgA13 with hgA13; subst hgA13; have m13 := H13.out.b3.bx.c2; rw [HVA.out] at m13))
  all_goals
    refine NoPanic.normal ?_
    have hlo := H14.out.loose HOK.out hjm hx0 (by omega) HVA.out
    exact hK j x _ hjm hx0 (by omega) (Lib.hid hlo.1) hlo.2
end Go.Proofs.Ytnnikeolgknfoaa

set_option linter.unusedSimpArgs false
set_option linter.unusedVariables false
namespace Go.Proofs.Ytnnikeolgknfoaa
open Go.RowKit Go.Shelf

theorem row_of2 {w : World} {lo : Nat} {r : Rw} {bA dA vA : Option Addr} {bc dc vc : Nat} (hr : r.ok) (hb : OwnBn w lo bA r.n r.B) (hd : OwnInt w lo dA r.d r.D) (hv : OwnWg w lo vA r.m r.V) (h1 : r.n ≤ bc) (h2 : r.d ≤ dc) (h3 : r.m ≤ vc) : RwRow w w.heap.size r bA bc dA dc vA vc :=
  ⟨Nat.le_refl _, hb.row, hd.row, hv.row, by have := hr.n6; omega, by have := hr.d7; omega, by have := hr.m10; omega, h1, h2, h3⟩
theorem cell_ne_block {w : World} {b c i j : Nat} {u v : Value} (hne : c ≠ b) (h : w.cell? ⟨b, j, none⟩ = some v) : (w.setCell ⟨c, i, none⟩ u).cell? ⟨b, j, none⟩ = some v := by
  rw [World.cell?_setCell_other _ _ _ _ (by intro e; injection e with e _ _; omega)]; exact h
set_option maxRecDepth 100000 in
set_option maxHeartbeats 8000000 in
theorem more_law (nA : Option Addr) (nn nc : Nat) (tA : Option Addr) (tn tc : Nat) (W : World) (hby : ByIn W W.heap.size nA nn) (hln : nn ≤ 9223372036854775807) (hby2 : ByIn W W.heap.size tA tn) (hln2 : tn ≤ 9223372036854775807) :
    Calls Try.prog 3 #[.slice nA nn nc, .slice tA tn tc] W fun e W' => e = .returned (.bool true) ∧ Below W.heap.size W W' := by
  have HBY := Lib.hid hby
  have HBY2 := Lib.hid hby2
  clear hby hby2
  go_enter Try.func3, Try.ntmps3
  go_wp2_with fail
  refine (fill_any W.heap.size nA nn nc _ (Nat.le_refl _) HBY.out).mono ?_
  rintro e w1 ⟨cb, rfl, hcb, hb1, hch⟩
  have HB1 := Lib.hid hb1
  have HC1 := Lib.hid hch
  have hs1 := hb1.size
  have hcl : cb < w1.heap.size := by
    obtain ⟨u, z, _, h⟩ := hch
    exact h.lt
  clear hb1 hch
  go_wp2_with fail
  refine (made_any 5 5 (by omega) (by omega) W.heap.size cb nA nn nc hln _ hs1 hcl HC1.out).mono ?_
  rintro e w2 ⟨r, X, bA, dA, vA, xA, bc, dc, vc, xc, rfl, hmd, hob, hod, hov, hox, ⟨hbc, hdc, hvc, hxc⟩, hg2, hc2⟩
  have hok := hmd.ok (by omega) (by omega)
  have HOK := Lib.hid hok
  have HMD := Lib.hid hmd
  have hn6 := hok.n6
  have hn1 := hok.n1
  have hd1 := hmd.d.1
  have HB2 := Lib.hid (HB1.out.trans (gb_below hg2 hs1 hcb))
  have HR2 := Lib.hid (row_of2 hok hob hod hov hbc hdc hvc)
  have HX2 := Lib.hid hox.row
  have hs2 := HB2.out.size
  clear hmd hob hod hov hox hg2 hc2 hok HB1 HC1 HBY hs1 hcl hcb hbc hdc
  go_upto_region 2 with fail
  refine wp_world (fun w' => RwAt w' w2.heap.size r bA bc dA dc vA vc ∧ Below w2.heap.size w2 w' ∧ w2.heap.size + 1 ≤ w'.heap.size) ⟨⟨(by (repeat' refine And.intro ?_ ?_) <;> (repeat (first | (with_reducible assumption) | (simp; done) | (with_reducible refine cell_drew_of ?_) | (with_reducible refine cell_drewN_of ?_) | (with_reducible refine cell_below_of (by with_reducible assumption) ?_) | ((with_reducible refine cell_new_of ?_ ?_) <;> (first | (with_reducible rfl) | (simp; done))) | ((with_reducible refine fro_new_of ?_) <;> (first | (with_reducible rfl) | (simp; done))) | (with_reducible refine cell_alloc_of _ ?_) | (with_reducible refine cell_set_of _ (by (first | exact Nat.le_refl _ | omega | (simp; done) | (simp; omega))) ?_) | (with_reducible refine fro_drew_of ?_) | (with_reducible refine fro_drewN_of ?_) | (with_reducible refine fro_below_of (by with_reducible assumption) (by (first | exact Nat.le_refl _ | omega | (simp; done) | (simp; omega))) ?_) | (with_reducible refine fro_alloc_of _ (by (first | exact Nat.le_refl _ | omega | (simp; done) | (simp; omega))) ?_) | (with_reducible refine fro_set_of _ ?_)))), (by (repeat' refine And.intro ?_ ?_) <;> (repeat (first | (with_reducible assumption) | (simp; done) | (with_reducible refine cell_drew_of ?_) | (with_reducible refine cell_drewN_of ?_) | (with_reducible refine cell_below_of (by with_reducible assumption) ?_) | ((with_reducible refine cell_new_of ?_ ?_) <;> (first | (with_reducible rfl) | (simp; done))) | ((with_reducible refine fro_new_of ?_) <;> (first | (with_reducible rfl) | (simp; done))) | (with_reducible refine cell_alloc_of _ ?_) | (with_reducible refine cell_set_of _ (by (first | exact Nat.le_refl _ | omega | (simp; done) | (simp; omega))) ?_) | (with_reducible refine fro_drew_of ?_) | (with_reducible refine fro_drewN_of ?_) | (with_reducible refine fro_below_of (by with_reducible assumption) (by (first | exact Nat.le_refl _ | omega | (simp; done) | (simp; omega))) ?_) | (with_reducible refine fro_alloc_of _ (by (first | exact Nat.le_refl _ | omega | (simp; done) | (simp; omega))) ?_) | (with_reducible refine fro_set_of _ ?_)))), (by (repeat' refine And.intro ?_ ?_) <;> (repeat (first | (with_reducible assumption) | (simp; done) | (with_reducible refine cell_drew_of ?_) | (with_reducible refine cell_drewN_of ?_) | (with_reducible refine cell_below_of (by with_reducible assumption) ?_) | ((with_reducible refine cell_new_of ?_ ?_) <;> (first | (with_reducible rfl) | (simp; done))) | ((with_reducible refine fro_new_of ?_) <;> (first | (with_reducible rfl) | (simp; done))) | (with_reducible refine cell_alloc_of _ ?_) | (with_reducible refine cell_set_of _ (by (first | exact Nat.le_refl _ | omega | (simp; done) | (simp; omega))) ?_) | (with_reducible refine fro_drew_of ?_) | (with_reducible refine fro_drewN_of ?_) | (with_reducible refine fro_below_of (by with_reducible assumption) (by (first | exact Nat.le_refl _ | omega | (simp; done) | (simp; omega))) ?_) | (with_reducible refine fro_alloc_of _ (by (first | exact Nat.le_refl _ | omega | (simp; done) | (simp; omega))) ?_) | (with_reducible refine fro_set_of _ ?_))))⟩, (by repeat (first | (with_reducible exact Below.refl _ _) | (with_reducible assumption) | (with_reducible refine Below.drew ?_) | ((with_reducible refine below_alloc ?_ ?_ _); (· (first | exact Nat.le_refl _ | omega | (dsimp only; omega) | (simp only [World.size_alloc, World.size_drew, World.heap_drewN]; omega) | (simp; omega)))) | ((with_reducible refine below_set ?_ ?_ _); (· (first | exact Nat.le_refl _ | omega | (dsimp only; omega) | (simp only [World.size_alloc, World.size_drew, World.heap_drewN]; omega) | (simp; omega)))) | ((with_reducible refine below_via (by with_reducible assumption) ?_ ?_); (· (first | exact Nat.le_refl _ | omega | (dsimp only; omega) | (simp only [World.size_alloc, World.size_drew, World.heap_drewN]; omega) | (simp; omega)))))), by simp⟩ ?_
  rintro w3 ⟨hx3, hb3, hs3⟩
  have HA3 := Lib.hid hx3
  have HR3 := Lib.hid (HR2.out.later hb3)
  have HX3 := Lib.hid (HX2.out.below hb3)
  have HB3 := Lib.hid (HB2.out.trans (hb3.mono hs2))
  have hs3' := HB3.out.size
  obtain ⟨rx, hrx⟩ : ∃ rx, rx = w2.heap.size := ⟨_, rfl⟩
  rw [← hrx] at HA3 hs3 HR3 HX3 hs2
  rw [← hrx]
  clear hx3 hb3 HR2 HB2 HX2 hrx
  go_wp2_with fail
  refine (fill_any W.heap.size tA tn tc _ (by omega) (HBY2.out.later HB3.out)).mono ?_
  rintro e w4 ⟨qb, rfl, hqb, hb4, hch⟩
  have HC4 := Lib.hid hch
  have HA4 := Lib.hid (HA3.out.later hb4)
  have HR4 := Lib.hid (HR3.out.later (hb4.mono (by omega)))
  have HX4 := Lib.hid (HX3.out.below (hb4.mono (by omega)))
  have HB4 := Lib.hid (HB3.out.trans (hb4.mono hs3'))
  have hs4 := hb4.size
  have hql : qb < w4.heap.size := by
    obtain ⟨u, z, _, h⟩ := hch
    exact h.lt
  clear hb4 hch HA3 HR3 HX3 HB3 HBY2
  have HM4 : Hid (MoB W w4 w4.heap.size rx qb r X bA dA vA xA bc dc vc tA tn tc) := Lib.hid ⟨HA4.out, HR4.out, HX4.out, HC4.out, HB4.out, by omega, by omega, by omega⟩
  have hd1' := hd1
  go_upto_region 3 with fail
  refine more_reg3 r hn1 hd1 rx bA dA vA bc dc vc _ HA4 (Lib.hid (HR4.out.up (by omega) (Nat.le_refl _))) _ ?_
  intro x35 x36 x37 x38 x39 x40 x41 x42 C z w5 HF
  obtain ⟨s0, hs0⟩ : ∃ s0, s0 = w4.heap.size := ⟨_, rfl⟩
  obtain ⟨E0, hE0⟩ : ∃ E0, E0 = w5.heap.size := ⟨_, rfl⟩
  have HSP := Lib.hid HF.out.sep
  rw [← hs0, ← hE0] at HSP
  have HM5 : Hid (MoB W w5 s0 rx qb r X bA dA vA xA bc dc vc tA tn tc) := Lib.hid (by rw [hs0]; exact HM4.out.keep HF.out.bel)
  have H0 := Lib.hid (HF.out.box (j := 0) (by omega))
  have H1 := Lib.hid (HF.out.box (j := 1) (by omega))
  have H2 := Lib.hid (HF.out.box (j := 2) (by omega))
  have H3 := Lib.hid (HF.out.box (j := 3) (by omega))
  have hE5 : E0 ≤ w5.heap.size := by omega
  have hsE : s0 ≤ E0 := by have := HF.out.bel.size; omega
  have hqs : rx < qb ∧ qb < s0 := HM5.out.bd.2
  clear hs0 hE0 HF HM4 HA4 HR4 HX4 HC4 HB4 hql hqb
  have hXA : ∀ a, xA = some a → a.block ≠ qb := by
    obtain ⟨b0, o0, hA0, hl0, -⟩ := HM5.out.xs 0 hn1
    intro a ha
    rw [hA0] at ha
    injection ha with ha
    rw [← ha]
    dsimp only
    omega
  go_wp2_with fail
  refine (weighed_any xA r.n xc X ⟨hn1, hn6⟩ hxc (fun k hk => by have h1 := HMD.out.x k hk; have h2 := Rw.sp_bd HOK.out hk; omega) W.heap.size qb tA tn tc hln2 _ HM5.out.bel.size (by omega) HM5.out.q (HM5.out.xs.mono (by omega)) hXA).mono ?_
  rintro e w6 ⟨x, rfl, hfit, hg6, hc6⟩
  have hxo : x.ok r.n := ⟨hfit.p, by have := hfit.e; omega, hfit.f, hfit.ft, hfit.t⟩
  have HM6 := Lib.hid (HM5.out.pull hg6 hc6)
  have HB6 : Hid (∀ j, j < 4 → CpBox w6 r (C j) (z j)) := Lib.hid (fun j hj => by
    rcases (show j = 0 ∨ j = 1 ∨ j = 2 ∨ j = 3 by omega) with rfl | rfl | rfl | rfl
    · exact H0.out.pull hg6 (HSP.out.lo hj) hqs.2
    · exact H1.out.pull hg6 (HSP.out.lo hj) hqs.2
    · exact H2.out.pull hg6 (HSP.out.lo hj) hqs.2
    · exact H3.out.pull hg6 (HSP.out.lo hj) hqs.2)
  have hs6 := hg6.size
  have HXO := Lib.hid hxo
  clear hfit hg6 hc6 hxo HM5 H0 H1 H2 H3 hXA
  go_upto_region 5 with fail
  refine wp_world (fun w' => WxAt w' w6.heap.size x ∧ Below w6.heap.size w6 w' ∧ w6.heap.size + 1 ≤ w'.heap.size) ⟨⟨(by (repeat' refine And.intro ?_ ?_) <;> (repeat (first | (with_reducible assumption) | (simp; done) | (with_reducible refine cell_drew_of ?_) | (with_reducible refine cell_drewN_of ?_) | (with_reducible refine cell_below_of (by with_reducible assumption) ?_) | ((with_reducible refine cell_new_of ?_ ?_) <;> (first | (with_reducible rfl) | (simp; done))) | ((with_reducible refine fro_new_of ?_) <;> (first | (with_reducible rfl) | (simp; done))) | (with_reducible refine cell_alloc_of _ ?_) | (with_reducible refine cell_set_of _ (by (first | exact Nat.le_refl _ | omega | (simp; done) | (simp; omega))) ?_) | (with_reducible refine fro_drew_of ?_) | (with_reducible refine fro_drewN_of ?_) | (with_reducible refine fro_below_of (by with_reducible assumption) (by (first | exact Nat.le_refl _ | omega | (simp; done) | (simp; omega))) ?_) | (with_reducible refine fro_alloc_of _ (by (first | exact Nat.le_refl _ | omega | (simp; done) | (simp; omega))) ?_) | (with_reducible refine fro_set_of _ ?_)))), (by (repeat' refine And.intro ?_ ?_) <;> (repeat (first | (with_reducible assumption) | (simp; done) | (with_reducible refine cell_drew_of ?_) | (with_reducible refine cell_drewN_of ?_) | (with_reducible refine cell_below_of (by with_reducible assumption) ?_) | ((with_reducible refine cell_new_of ?_ ?_) <;> (first | (with_reducible rfl) | (simp; done))) | ((with_reducible refine fro_new_of ?_) <;> (first | (with_reducible rfl) | (simp; done))) | (with_reducible refine cell_alloc_of _ ?_) | (with_reducible refine cell_set_of _ (by (first | exact Nat.le_refl _ | omega | (simp; done) | (simp; omega))) ?_) | (with_reducible refine fro_drew_of ?_) | (with_reducible refine fro_drewN_of ?_) | (with_reducible refine fro_below_of (by with_reducible assumption) (by (first | exact Nat.le_refl _ | omega | (simp; done) | (simp; omega))) ?_) | (with_reducible refine fro_alloc_of _ (by (first | exact Nat.le_refl _ | omega | (simp; done) | (simp; omega))) ?_) | (with_reducible refine fro_set_of _ ?_)))), (by (repeat' refine And.intro ?_ ?_) <;> (repeat (first | (with_reducible assumption) | (simp; done) | (with_reducible refine cell_drew_of ?_) | (with_reducible refine cell_drewN_of ?_) | (with_reducible refine cell_below_of (by with_reducible assumption) ?_) | ((with_reducible refine cell_new_of ?_ ?_) <;> (first | (with_reducible rfl) | (simp; done))) | ((with_reducible refine fro_new_of ?_) <;> (first | (with_reducible rfl) | (simp; done))) | (with_reducible refine cell_alloc_of _ ?_) | (with_reducible refine cell_set_of _ (by (first | exact Nat.le_refl _ | omega | (simp; done) | (simp; omega))) ?_) | (with_reducible refine fro_drew_of ?_) | (with_reducible refine fro_drewN_of ?_) | (with_reducible refine fro_below_of (by with_reducible assumption) (by (first | exact Nat.le_refl _ | omega | (simp; done) | (simp; omega))) ?_) | (with_reducible refine fro_alloc_of _ (by (first | exact Nat.le_refl _ | omega | (simp; done) | (simp; omega))) ?_) | (with_reducible refine fro_set_of _ ?_)))), (by (repeat' refine And.intro ?_ ?_) <;> (repeat (first | (with_reducible assumption) | (simp; done) | (with_reducible refine cell_drew_of ?_) | (with_reducible refine cell_drewN_of ?_) | (with_reducible refine cell_below_of (by with_reducible assumption) ?_) | ((with_reducible refine cell_new_of ?_ ?_) <;> (first | (with_reducible rfl) | (simp; done))) | ((with_reducible refine fro_new_of ?_) <;> (first | (with_reducible rfl) | (simp; done))) | (with_reducible refine cell_alloc_of _ ?_) | (with_reducible refine cell_set_of _ (by (first | exact Nat.le_refl _ | omega | (simp; done) | (simp; omega))) ?_) | (with_reducible refine fro_drew_of ?_) | (with_reducible refine fro_drewN_of ?_) | (with_reducible refine fro_below_of (by with_reducible assumption) (by (first | exact Nat.le_refl _ | omega | (simp; done) | (simp; omega))) ?_) | (with_reducible refine fro_alloc_of _ (by (first | exact Nat.le_refl _ | omega | (simp; done) | (simp; omega))) ?_) | (with_reducible refine fro_set_of _ ?_)))), (by (repeat' refine And.intro ?_ ?_) <;> (repeat (first | (with_reducible assumption) | (simp; done) | (with_reducible refine cell_drew_of ?_) | (with_reducible refine cell_drewN_of ?_) | (with_reducible refine cell_below_of (by with_reducible assumption) ?_) | ((with_reducible refine cell_new_of ?_ ?_) <;> (first | (with_reducible rfl) | (simp; done))) | ((with_reducible refine fro_new_of ?_) <;> (first | (with_reducible rfl) | (simp; done))) | (with_reducible refine cell_alloc_of _ ?_) | (with_reducible refine cell_set_of _ (by (first | exact Nat.le_refl _ | omega | (simp; done) | (simp; omega))) ?_) | (with_reducible refine fro_drew_of ?_) | (with_reducible refine fro_drewN_of ?_) | (with_reducible refine fro_below_of (by with_reducible assumption) (by (first | exact Nat.le_refl _ | omega | (simp; done) | (simp; omega))) ?_) | (with_reducible refine fro_alloc_of _ (by (first | exact Nat.le_refl _ | omega | (simp; done) | (simp; omega))) ?_) | (with_reducible refine fro_set_of _ ?_)))), (by (repeat' refine And.intro ?_ ?_) <;> (repeat (first | (with_reducible assumption) | (simp; done) | (with_reducible refine cell_drew_of ?_) | (with_reducible refine cell_drewN_of ?_) | (with_reducible refine cell_below_of (by with_reducible assumption) ?_) | ((with_reducible refine cell_new_of ?_ ?_) <;> (first | (with_reducible rfl) | (simp; done))) | ((with_reducible refine fro_new_of ?_) <;> (first | (with_reducible rfl) | (simp; done))) | (with_reducible refine cell_alloc_of _ ?_) | (with_reducible refine cell_set_of _ (by (first | exact Nat.le_refl _ | omega | (simp; done) | (simp; omega))) ?_) | (with_reducible refine fro_drew_of ?_) | (with_reducible refine fro_drewN_of ?_) | (with_reducible refine fro_below_of (by with_reducible assumption) (by (first | exact Nat.le_refl _ | omega | (simp; done) | (simp; omega))) ?_) | (with_reducible refine fro_alloc_of _ (by (first | exact Nat.le_refl _ | omega | (simp; done) | (simp; omega))) ?_) | (with_reducible refine fro_set_of _ ?_)))), (by (repeat' refine And.intro ?_ ?_) <;> (repeat (first | (with_reducible assumption) | (simp; done) | (with_reducible refine cell_drew_of ?_) | (with_reducible refine cell_drewN_of ?_) | (with_reducible refine cell_below_of (by with_reducible assumption) ?_) | ((with_reducible refine cell_new_of ?_ ?_) <;> (first | (with_reducible rfl) | (simp; done))) | ((with_reducible refine fro_new_of ?_) <;> (first | (with_reducible rfl) | (simp; done))) | (with_reducible refine cell_alloc_of _ ?_) | (with_reducible refine cell_set_of _ (by (first | exact Nat.le_refl _ | omega | (simp; done) | (simp; omega))) ?_) | (with_reducible refine fro_drew_of ?_) | (with_reducible refine fro_drewN_of ?_) | (with_reducible refine fro_below_of (by with_reducible assumption) (by (first | exact Nat.le_refl _ | omega | (simp; done) | (simp; omega))) ?_) | (with_reducible refine fro_alloc_of _ (by (first | exact Nat.le_refl _ | omega | (simp; done) | (simp; omega))) ?_) | (with_reducible refine fro_set_of _ ?_)))), (by (repeat' refine And.intro ?_ ?_) <;> (repeat (first | (with_reducible assumption) | (simp; done) | (with_reducible refine cell_drew_of ?_) | (with_reducible refine cell_drewN_of ?_) | (with_reducible refine cell_below_of (by with_reducible assumption) ?_) | ((with_reducible refine cell_new_of ?_ ?_) <;> (first | (with_reducible rfl) | (simp; done))) | ((with_reducible refine fro_new_of ?_) <;> (first | (with_reducible rfl) | (simp; done))) | (with_reducible refine cell_alloc_of _ ?_) | (with_reducible refine cell_set_of _ (by (first | exact Nat.le_refl _ | omega | (simp; done) | (simp; omega))) ?_) | (with_reducible refine fro_drew_of ?_) | (with_reducible refine fro_drewN_of ?_) | (with_reducible refine fro_below_of (by with_reducible assumption) (by (first | exact Nat.le_refl _ | omega | (simp; done) | (simp; omega))) ?_) | (with_reducible refine fro_alloc_of _ (by (first | exact Nat.le_refl _ | omega | (simp; done) | (simp; omega))) ?_) | (with_reducible refine fro_set_of _ ?_))))⟩, (by repeat (first | (with_reducible exact Below.refl _ _) | (with_reducible assumption) | (with_reducible refine Below.drew ?_) | ((with_reducible refine below_alloc ?_ ?_ _); (· (first | exact Nat.le_refl _ | omega | (dsimp only; omega) | (simp only [World.size_alloc, World.size_drew, World.heap_drewN]; omega) | (simp; omega)))) | ((with_reducible refine below_set ?_ ?_ _); (· (first | exact Nat.le_refl _ | omega | (dsimp only; omega) | (simp only [World.size_alloc, World.size_drew, World.heap_drewN]; omega) | (simp; omega)))) | ((with_reducible refine below_via (by with_reducible assumption) ?_ ?_); (· (first | exact Nat.le_refl _ | omega | (dsimp only; omega) | (simp only [World.size_alloc, World.size_drew, World.heap_drewN]; omega) | (simp; omega)))))), by simp⟩ ?_
  rintro w7 ⟨hw7, hb7, hs7⟩
  have HW7 : Hid (MoW W w7 s0 E0 rx qb r X bA dA vA xA bc dc vc tA tn tc C z w6.heap.size x) := Lib.hid ⟨HM6.out.keep (hb7.mono (by omega)), fun j hj => (HB6.out j hj).later hb7, HSP.out, hw7, HXO.out, by omega⟩
  obtain ⟨wb, hwb⟩ : ∃ wb, wb = w6.heap.size := ⟨_, rfl⟩
  rw [← hwb] at HW7
  rw [← hwb]
  clear hw7 hb7 hs7 HM6 HB6 HXO HSP hwb hs6
  go_wp2_with fail
  refine (chin_any W.heap.size qb tA tn tc 3 (by omega) hln2 _ HW7.out.mb.q).mono ?_
  rintro e w8 ⟨ib, rfl, hg8, hc8⟩
  have HW8 := Lib.hid (HW7.out.pull hg8 hc8)
  clear hg8 hc8 HW7
  go_upto_if 47 with fail
  go_cut [48] (fun s48 wx => ∃ y : Wg, Hid (MoW W wx s0 E0 rx qb r X bA dA vA xA bc dc vc tA tn tc C z wb y))
  case first =>
    cases ib
    · go_wp2_with fail
      go_meet
      exact ⟨x, HW8⟩
    · have f2 := HW8.out.wx.f2
      have d2 := HW8.out.wx.c2
      have hwne : wb ≠ qb := by have := HW8.out.wl; omega
      have hwlt : wb < w8.heap.size := World.block_lt_of_cell? w8 _ d2
      go_wp2_with ((go_at_call 13; refine (pull_any W.heap.size qb tA tn tc 100 (by omega) hln2 _ HW8.out.mb.q).mono ?_; rintro e w9 ⟨p, rfl, hp0, hp1, hg9, hc9⟩; have s9 : w9.heap[wb]? = w8.heap[wb]? := hg9.block _ hwlt (fun e => by injection e with e; omega); have a9 := cell_same s9 d2; have b9 := fro_same s9 f2))
      go_meet
      exact ⟨_, Lib.hid ((HW8.out.pull hg9 hc9).setp p (by omega))⟩
  case rest =>
    obtain ⟨y, HW⟩ := hcut
    clear HW8
    obtain ⟨i0, hi, hz0, hz1, hz2⟩ := info_parts infoWg
    have hm5 : r.m ≤ 5 := by have := HMD.out.m; omega
    have HSP := Lib.hid HW.out.sp
    have HB0 := Lib.hid (HW.out.b 0 (by omega))
    have HYO := Lib.hid HW.out.yo
    have ho0 := HB0.out.cp.v
    have hlv := fun q (hq : (Value.slice (C 0).vA r.m (C 0).vc).ownBlock = some q) => HB0.out.cp.vl q hq
    have hzz := HSP.out.ac 0 0 (by omega) (by omega)
    have hz0l := HB0.out.bx.lt
    have hcm := HB0.out.cp.sm
    have hcme := HB0.out.cp.me
    have hce0 := HB0.out.cp.e
    have v2 := HB0.out.bx.c2
    have vf2 := HB0.out.bx.f2
    have y0 := HW.out.wx.c0
    have y1 := HW.out.wx.c1
    have y2 := HW.out.wx.c2
    have y3 := HW.out.wx.c3
    have hcap := HB0.out.cp.cap
    have hEw := HW.out.wl
    have HO0 := Lib.hid ho0
    clear ho0
    go_upto_region 7 with fail
    go_upto_region 8 with (at_builtin; refine wpList_append_lies _ rfl (.tmp 52) (.tmp 54) 25 rfl (C 0).m 35 i0 (.agg #[.int .i64 0, .int .i64 0, .int .i64 0, .int .i64 0]) 4 32 wgs_under hi hz0 hz1 hz2 rfl (by decide) _ r.m (rowC wgC r.V r.m) rfl (HO0.out.alloc _) ⟨wc.heap.size, 0, none⟩ 1 1 (wgC y) rfl rfl (new_cells (cs := wgC y)) (wgC_one y) (by omega) (by unfold maxLen; omega) (by omega) (by simp; omega) (wc.heap.size + 1) (by simp) ?_; intro g cap w6 hown6 hgr6 hat6 hlt6; have s6 : w6.heap[z 0]? = wc.heap[z 0]? := (hgr6.block (z 0) (by simp; omega) (fun e => by have := hlv _ e.symm; omega)).trans (Below.heap_alloc _ _ _ hz0l); have a6 := cell_same s6 v2; have b6 := fro_same s6 vf2)
    have hap := HB0.out.app HOK.out (by omega) HYO.out hzz (HSP.out.s 0 (by omega)).2 hEw.2.1 hown6 hgr6 hat6
    refine wp_world (fun w' => RowF w' (z 0) (r.more y) (fun i => (own (C 0) (z 0) i ∨ E0 ≤ i) ∧ i < w'.heap.size) ∧ (∀ i, i < wc.heap.size → ¬ own (C 0) (z 0) i → w'.heap[i]? = wc.heap[i]?) ∧ wc.heap.size ≤ w'.heap.size ∧ Below s0 wc w') ⟨hap.1, hap.2.1, hap.2.2.1, hap.2.2.2 s0 (HSP.out.lo (by omega)).1 (HSP.out.lo (by omega)).2 (by omega)⟩ ?_
    rintro w9 ⟨hf9, hk9, hs9, hb9⟩
    have HF9 := Lib.hid hf9
    have HM9 := Lib.hid (HW.out.mb.keep hb9)
    have HB19 := Lib.hid ((HW.out.b 1 (by omega)).off HSP.out (by omega) (by omega) (by omega) hk9 hs9)
    have HB29 := Lib.hid ((HW.out.b 2 (by omega)).off HSP.out (by omega) (by omega) (by omega) hk9 hs9)
    have HB39 := Lib.hid ((HW.out.b 3 (by omega)).off HSP.out (by omega) (by omega) (by omega) hk9 hs9)
    have hE9 : s0 ≤ E0 ∧ E0 ≤ w9.heap.size := by omega
    clear hap hown6 hgr6 hat6 hlt6 s6 a6 b6 hf9 hk9 hs9 hb9 HW HB0 HO0 v2 vf2 y0 y1 y2 y3 hlv hcap hz0l hcm hcme hce0
    have v2 := HB19.out.bx.c2
    have vf2 := HB19.out.bx.f2
    have e2 := HM9.out.at_.c2
    have hzr : z 1 ≠ rx := by have := HSP.out.zz 1 (by omega); have := HM9.out.bd; omega
    have e2' := cell_ne_block (u := nilS) (i := 2) hzr e2
    have hqz : qb ≠ z 1 := by have := HSP.out.zz 1 (by omega); have := HM9.out.bd; omega
    have hbd9 := HM9.out.bd
    have hz1b := HSP.out.zz 1 (by omega)
    have hW9 := HM9.out.bel.size
    have hzl9 := HB19.out.bx.lt
    go_wp2_with fail
    refine (shuffled_any W.heap.size qb tA tn tc r.m (by omega) hln2 _ (by simp [World.setCell]; omega) (by simp [World.setCell]; omega) (HM9.out.q.keep (fun i hi => set_heap _ (by dsimp only; omega)))).mono ?_
    rintro e w11 ⟨yA, yc, Y, rfl, hoy, hyc, hpm, hg11, hc11⟩
    have hyz : 0 < r.m → ∀ a, yA = some a → a.block ≠ z 1 := fun h0 a ha => by
      obtain ⟨b', hA', hl', _⟩ := hoy 0 h0
      rw [ha] at hA'
      injection hA' with hA'
      rw [hA']
      simp [World.setCell] at hl'
      dsimp only
      omega
    have HL := Lib.hid (LMx.start HM9.out HSP.out HF9.out HB19.out HB29.out HB39.out hE9 hg11 hc11 hoy)
    have HPM := Lib.hid hpm
    clear hoy hpm hg11 hc11 HF9 HM9 HB19 HB29 HB39 v2 vf2 e2 e2' hE9 hzl9 hW9
    go_upto_block 0 with fail
    refine more_loop1 W s0 E0 rx qb r X bA dA vA xA bc dc vc tA tn tc C z (r.more y) w11.heap.size yA yc Y HPM hm5 hyz hvc w11 nilS HL _ ?_
    intro x14 x64 x65 x66 x67 x68 x69 x70 x71 x72 x73 x74 x75 x76 x77 x78 w12 hex
    obtain ⟨v12, HL12⟩ := hex
    have H3 := Lib.hid (LMx.end HOK.out HPM.out HL12.out)
    clear HL12 HL
    have e2 := H3.out.mb.at_.c2
    have hl3 := H3.out.l
    have hbd3 := H3.out.mb.bd
    go_upto_if 82 with fail
    go_cut [83] (fun s83 wx => ∃ t l : Rw, Hid (Mo4 W wx s0 E0 rx qb r X bA dA vA xA bc dc vc tA tn tc C z (r.more y) (r.wgs (mixV r Y)) t l) ∧ Hid (t.ok ∧ l.ok ∧ r.sub t ∧ t.sub r ∧ l.sub r) ∧ s0 ≤ wx.heap.size)
    case first =>
      by_cases hm0 : r.m = 0
      · have hnp : ¬ (0 : Int) < ((r.m : Nat) : Int) := by omega
        clear hm0
        have H4 := Lib.hid (show Mo4 W w12 s0 E0 rx qb r X bA dA vA xA bc dc vc tA tn tc C z (r.more y) (r.wgs (mixV r Y)) r r from ⟨H3.out.mb, H3.out.f, H3.out.m, ((H3.out.b2.row HOK.out (S := fun i => own (C 2) (z 2) i ∨ E0 ≤ i) (fun i hi => .inl hi)).weak (fun i hi => hi.1)), ((H3.out.b3.row HOK.out (S := fun i => own (C 3) (z 3) i ∨ E0 ≤ i) (fun i hi => .inl hi)).weak (fun i hi => hi.1))⟩)
        go_wp2_with fail
        go_meet
        exact ⟨r, r, H4, Lib.hid ⟨HOK.out, HOK.out, Rw.sub_refl r, Rw.sub_refl r, Rw.sub_refl r⟩, by omega⟩
      · have hpp : (0 : Int) < ((r.m : Nat) : Int) := by omega
        have hmp : 0 < r.m := by omega
        clear hm0
        have HE6 : Hid (∀ j, j < r.m → 0 ≤ (r.V j).e ∧ (r.V j).e ≤ 6) := Lib.hid (fun j hj => (HMD.out.v j hj).e)
        go_upto_region 15 with fail
        refine more_reg15 W s0 E0 rx qb r HOK X bA dA vA xA bc dc vc tA tn tc hln2 C z (r.more y) (r.wgs (mixV r Y)) hm5 hmp hvc _ H3 _ ?_
        intro x83 x84 x85 x86 x87 x88 x89 x90 x91 x92 x93 x94 x95 x96 j w13 hj H5
        clear H3 e2
        go_upto_region 16 with fail
        refine more_reg16 W s0 E0 rx qb r HOK HE6 X bA dA vA xA bc dc vc tA tn tc hln2 C z (r.more y) (r.wgs (mixV r Y)) (r.more (r.V j)) hm5 hmp hvc _ H5 _ ?_
        intro x97 x98 x99 x100 x101 x102 x103 x104 x105 x106 x107 x108 x109 x110 x111 i x w14 hi' hx0 hx100 H4 hsw
        go_wp2_with fail
        go_meet
        exact ⟨_, _, H4, Lib.hid ⟨Rw.more_ok HOK.out (by omega) (HOK.out.v j hj), Rw.loose_ok HOK.out hi' hx0 hx100, Rw.sub_more r _, Rw.twice_sub r hj, Rw.loose_sub r hx0⟩, hsw⟩
    case rest =>
      obtain ⟨t, l, H4, HTL, hsw⟩ := hcut
      clear H3 e2
      have HB4 := Lib.hid H4.out.mb.bel
      have HRW := Lib.hid (MoreRw.of_made HMD.out.fits HOK.out (Rw.more_ok HOK.out (by omega) HYO.out) (Rw.mixed_ok HOK.out HPM.out) HTL.out.1 HTL.out.2.1 (Rw.sub_more r y) (Rw.sub_mixed HPM.out) (Rw.mixed_sub HPM.out) HTL.out.2.2.1 HTL.out.2.2.2.1 HTL.out.2.2.2.2)
      obtain ⟨c0, c1, c2⟩ := H4.out.mb.at_
      go_wp2_with fail
      refine (pairs_any bA r.n bc _ _ hn6 ⟨_, _, _, rfl⟩ ⟨_, _, _, rfl⟩ _).mono ?_
      rintro e w15 ⟨pA, pc, m, P, rfl, hm36, hpp, hpr, hb15⟩
      have hsW := HB4.out.size
      have HB15 := Lib.hid (HB4.out.trans (hb15.mono hsW))
      have HPP := Lib.hid hpp
      have HPR := Lib.hid hpr
      have H15 := Lib.hid (H4.out.later hsw hb15)
      have HR : Hid (RowIn w15 rx r) := Lib.hid ⟨bA, dA, vA, bc, dc, vc, H15.out.mb.at_, H15.out.mb.row.up (Nat.le_of_lt H15.out.mb.at_.lt) (Nat.le_refl _)⟩
      clear hpp hpr hb15 c0 c1 c2 H4 HB4
      go_upto_block 2 with fail
      refine more_loop2 r (r.more y) (r.wgs (mixV r Y)) t l HRW rx (z 0) (z 1) (z 2) (z 3) pA m P hm36 HPP pc w15 HPR HR (Lib.hid H15.out.f.in) (Lib.hid H15.out.m.in) (Lib.hid H15.out.t.in) (Lib.hid H15.out.l.in) _ ?_
      intro x4 x16 x17 x18 x19 x20 x21 x22 x23 x24 x25 x26 x115 x116 x117 x118 x119 x120 x121 x122 x123 x124 x125 x126 x127 x128 x129 x130 x131 x132 x133 x134 x135 x136 x137 x138 x139 x140 x141 x142 x143 x144 x145 x146 x147 x148 x149 x150 x151 x152 x153 x154 x155 x156 x157 x158 x159 x160 x161 x162 x163 x164 x165 x166 x167 x168 x169 x170 x171 x172 x173 x174 x175 x176 x177 x178 x179 x180 x181 x182 x183 x184 x185 x186 x187 x188 x189 x190 x191 x192 x193 x194 x195 x196 x197 x198 x199 x200 x201 x202 x203 x204 x205 x206 x207 x208 x209 x210 x211 x212 x213 x214 x215 x216 x217 x218 x219 x220 x221 x222 x223 x224 x225 x226 x227 x228 w16 HW
      have HE := Lib.hid (HB15.out.trans (HW.out.mono HB15.out.size))
      clear HW
      go_wp2_with fail
      refine (awake_any _).mono ?_
      rintro e wc ⟨rfl, hb⟩
      have Hc := Lib.hid (HE.out.trans (hb.mono HE.out.size))
      clear hb
      go_wp2_with fail
      go_ret
      exact ⟨rfl, Hc.out⟩
end Go.Proofs.Ytnnikeolgknfoaa

set_option linter.unusedSimpArgs false
set_option linter.unusedVariables false
namespace Go.Proofs.Ytnnikeolgknfoaa
open Go.ChangeShapes Go.WideShapes Go.ChangeAt Go.RowKit

set_option maxRecDepth 100000 in
set_option maxHeartbeats 1000000 in
theorem more_lifted (os : Os) (started : os.Started) (H : Type) (enc : TypeId × Value → H) :
    ReturnsInHanded {} Try.checked os 3 .any (Rows.binMoreSpec.pre6 enc Try.prog Try.f3 Rows.binMoreRow.domain false) (Rows.binMoreSpec.post enc Try.prog Try.f3 false true false false) := by
  refine returnsInHanded_of_change (C := Try.checked) own_knob started (by kernel_rfl) Try.func3
    (ChangeSpec.witness6 (enc := enc) (C := Try.checked) false ⟨#[], #[.slice none 0 0, .slice none 0 0], []⟩ 8 (by kernel_rfl) (by kernel_rfl) (by kernel_rfl) (by kernel_rfl)) ?_
  intro W base args ds gs before hval0 hW hcnd _
  have hval : ∀ (j : Nat) t v, Try.f3.params[j]? = some t → args[j]? = some v → Value.okWide Try.prog W .any base t v := hval0
  have hW' := hW
  obtain ⟨p, q, hA0, hV, rfl, hfz, hnd⟩ := hW
  have hA : DataW.TrodAll enc Try.prog W 0 (fun _ => true) true Try.f3.params.toList args.toList ds p := hA0
  rw [Try.params3] at hA hval
  obtain ⟨v0, v1, d0, d1, p0, p1, rfl, rfl, rfl, h0, h1⟩ := trodAll_two hA
  obtain ⟨rfl, rfl⟩ := trodVars_none hV
  obtain ⟨a0, n0, c0, rfl⟩ := okWide_slice Try.underlying22 (hval 0 22 v0 rfl rfl)
  have h0k := h0
  obtain ⟨f0, g0⟩ := h0
  obtain ⟨A, n, c, hv, hby0, hmx0⟩ := open_bytes (v := .slice a0 n0 c0) g0
  injection hv with hv1 hv2 hv3
  subst hv1 hv2 hv3
  obtain ⟨a1, n1, c1, rfl⟩ := okWide_slice Try.underlying22 (hval 1 22 v1 rfl rfl)
  have h1k := h1
  obtain ⟨f1, g1⟩ := h1
  obtain ⟨A, n, c, hv, hby1, hmx1⟩ := open_bytes (v := .slice a1 n1 c1) g1
  injection hv with hv1 hv2 hv3
  subst hv1 hv2 hv3
  clear hA0 hval0
  simp only [List.append_nil] at hW'
  have hlt0 : ∀ x ∈ p0, x.block < W.heap.size := fun x hx => hW'.lt x (by simp [hx])
  have hlt1 : ∀ x ∈ p1, x.block < W.heap.size := fun x hx => hW'.lt x (by simp [hx])
  refine (more_law a0 n0 c0 a1 n1 c1 W hby0 (by unfold maxLen at hmx0; omega) hby1 (by unfold maxLen at hmx1; omega)).mono fun e W' ⟨he, bel⟩ => ?_
  subst he
  exact ⟨_, rfl, _, _, _, [], _, [], hW', trodAll_mk1 (shut_bool Try.underlying4 true),
    trodAll_mk2 (Below.trod laid_out (by kernel_rfl) (of_decide_eq_true (by kernel_rfl)) h0k bel hlt0) (Below.trod laid_out (by kernel_rfl) (of_decide_eq_true (by kernel_rfl)) h1k bel hlt1), rfl, bel.frame _, fun h => by cases h⟩

theorem bin_more_holds : Rows.BinMoreSaid :=
  OpenClaim.holds_of_wide 3 Try.f3 rfl rfl rfl rfl rfl rfl rfl ⟨rfl, rfl, rfl, rfl, rfl⟩ rfl rfl rfl rfl rfl (by kernel_rfl) Try.func3 (by kernel_rfl)
    (of_decide_eq_true (by kernel_rfl)) (by unfold Func.isWrapper; first | (rw [if_pos (by decide +kernel)]; kernel_rfl) | (rw [if_neg (by decide +kernel)]; exact ⟨rfl, rfl⟩))
    (fun os started H enc _ => more_lifted os started H enc)
#print axioms bin_more_holds
end Go.Proofs.Ytnnikeolgknfoaa
