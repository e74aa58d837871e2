/- The law BinProofs, walked. Its loop. (Written by gen_wn.py.) -/
import Derived.Test.YtnnikeolgknfoaaGreatGa
import Derived.Test.YtnnikeolgknfoaaGreatFcm
import Derived.Test.YtnnikeolgknfoaaGreatEcm
import Derived.Test.YtnnikeolgknfoaaGreatFcp
set_option linter.unusedSimpArgs false
set_option linter.unusedVariables false
namespace Go.Proofs.YtnnikeolgknfoaaGreat

/-- the block of a number -/
def blkOf (n : Nat) : Code → Option Code
  | .block m b => match Nat.beq m n with
    | true => some (.block m b)
    | false => blkOf n b
  | .seq x y => match blkOf n x with
    | some c => some c
    | none => blkOf n y
  | .loop b => blkOf n b
  | .cond _ x y => match blkOf n x with
    | some c => some c
    | none => blkOf n y
  | .scope b => blkOf n b
  | _ => none
/-- a block of a function's body -/
def blkIn (f : Func) (n : Nat) : Code := (blkOf n (f.body.getD .skip)).getD .skip
/-- what a function's spine is from a region on -/
def fromRg (n : Nat) : Code → Code
  | .seq (.region m ops b) y => match Nat.beq m n with
    | true => .seq (.region m ops b) y
    | false => fromRg n y
  | .seq _ y => fromRg n y
  | c => c
def hdRg : Code → Code
  | .seq a _ => a
  | c => c
def tlRg : Code → Code
  | .seq _ b => b
  | c => c
end Go.Proofs.YtnnikeolgknfoaaGreat

set_option linter.unusedSimpArgs false
set_option linter.unusedVariables false
namespace Go.Proofs.YtnnikeolgknfoaaGreat
open Go.RowKit Go.Shelf

theorem ask_shows {r : Rw} {f t : Int} (h : r.askErr f t = 0) (most : Bool) {l : List Fc} (hc : Chain r (waysR f t most).1.toNat (waysR f t most).2.toNat l) (hs : wsum r l = r.search.1.L (waysR f t most).1.toNat (waysR f t most).2.toNat) (hl : l.length ≤ r.n) : l.length ≤ 6 ∧ r.showsR f t most l.length (fun k => l.getD k fc0) = (if most then (r.sumS f t).b else (r.sumS f t).a, 0) := by
  obtain ⟨hok, hf0, hft, htn, hrd⟩ := Rw.ask_ok h
  have h6 := hok.n6
  have hsum : r.sumS f t = r.span f.toNat t.toNat := by unfold Rw.sumS; rw [if_pos h]
  rw [hsum]
  obtain ⟨a, rfl⟩ := Int.eq_ofNat_of_zero_le hf0
  obtain ⟨b, rfl⟩ := Int.eq_ofNat_of_zero_le (by omega : 0 ≤ t)
  have hq := shows_ways hok most (P := fun k => l.getD k fc0) (f := a) (t := b) (by omega) (by omega) (x := (waysR a b most).1.toNat) (y := (waysR a b most).2.toNat) (by unfold waysR; cases most <;> simp <;> omega) (by unfold waysR; cases most <;> simp <;> omega) (fun j _ => rfl) hc (by omega)
  refine ⟨by omega, ?_⟩
  rw [hq, hs]
  cases most with
  | true =>
    show (r.search.1.L (a : Int).toNat ((b : Int) + 1).toNat, (0 : Int)) = (r.search.1.L (a : Int).toNat ((b : Int).toNat + 1), 0)
    rw [Int.toNat_natCast, Int.toNat_natCast, show ((b : Int) + 1).toNat = b + 1 by omega]
  | false =>
    show (-r.search.1.L ((b : Int) + 1).toNat (a : Int).toNat, (0 : Int)) = (-r.search.1.L ((b : Int).toNat + 1) (a : Int).toNat, 0)
    rw [Int.toNat_natCast, Int.toNat_natCast, show ((b : Int) + 1).toNat = b + 1 by omega]
theorem round_contra {r : Rw} (hr : r.ok) (h : r.round ≠ []) : r.round.length ≤ 12 ∧ r.contraR r.round.length (fun k => r.round.getD k fc0) = (true, 0) := by
  rcases Rw.round_spec hr with ⟨_, h1, _⟩ | ⟨a, k, _, _, _, _, ht⟩
  · exact absurd h1 h
  · exact ⟨ht.m, Torn.contra hr ht (fun j _ => rfl)⟩

set_option maxRecDepth 100000 in
set_option maxHeartbeats 0 in
theorem proofs_loop (r : Rw) (f t : Int) (cA mA : Option Addr) (n cc mc : Nat) (P : Nat → Fc) (b1 b2 tb ab : Nat) (bA dA vA bA1 dA1 vA1 bA2 dA2 vA2 : Option Addr) (bc dc vc bc1 dc1 vc1 bc2 dc2 vc2 : Nat) (W : World) (s : Sp) (er : Int) (HS : Hid (s = r.sumS f t)) (HER : Hid (er = r.askErr f t)) (hn1000 : n ≤ 1000) (hnbig : n ≤ 1000000000) {u0 u4 u5 u6 u7 u8 u14 u15 u16 u17 u18 u19 u20 u21 u22 u23 u24 u25 u26 u27 u28 u29 u30 u31 u32 u33 u34 u35 u36 u37 u38 u39 u40 u41 u42 u43 u44 u45 u46 u47 u48 u49 u50 u51 u52 u56 u57 u58 u59 u60 u61 u62 u63 u64 u65 u66 u67 u68 u69 u70 u71 u72 u73 u74 u75 u76 u77 u78 u79 u80 u81 u82 u83 u84 u85 u86 u87 u88 u89 u90 u91 u92 u93 u94 u95 u96 u97 u98 u99 u100 u101 u102 u103 u104 u105 u106 u107 u108 u109 u110 u111 u112 u113 u114 u115 u116 u117 u118 u119 u120 u121 u122 u123 u124 u125 u126 u127 u128 u129 u130 u131 u132 u133 u134 u135 u136 u137 u138 u139 u140 u141 u142 u143 u144 u145 u146 u147 u148 u149 u150 u151 u152 u153 u154 u155 u156 u157 u158 u159 u160 u161 u162 u163 u164 u165 u166 u167 u168 u169 u170 u171 u172 u173 u174 u175 u176 u177 u178 u179 u180 u181 u182 u183 u184 u185 u186 u187 u188 u189 u190 u191 u192 u193 u194 u195 u196 u197 u198 u199 u200 u201 u202 u203 u204 u205 u206 u207 u208 : Value} (w7 : World) (HL7 : Hid (LawB W w7 r b1 b2 ⟨bA, dA, vA, bc, dc, vc⟩ ⟨bA1, dA1, vA1, bc1, dc1, vc1⟩ ⟨bA2, dA2, vA2, bc2, dc2, vc2⟩)) (HC7 : Hid (FcRow w7 w7.heap.size cA n P)) (HM7 : Hid (FcRow w7 w7.heap.size mA n P)) (HQ7 : Hid (w7.cell? ⟨tb, 0, none⟩ = some (.int .i64 s.a) ∧ w7.cell? ⟨tb, 1, none⟩ = some (.int .i64 s.b))) (HY7 : Hid (w7.cell? ⟨ab, 0, none⟩ = some (.bool false) ∧ w7.cell? ⟨ab, 1, none⟩ = some (.bool true)))
    (Q : Exit → Act → World → Prop) (hK : ∀ {x8 x15 x16 x17 x18 x19 x20 x21 x22 x23 x55 x56 x57 x58 x59 x60 x61 x62 x63 x64 x65 x66 x67 x68 x69 x70 x71 x72 x73 x74 x75 x76 x77 x78 x79 x80 x81 x82 x83 x84 x85 x86 x87 x88 x89 x90 x91 x92 x93 x94 x95 x96 x97 x98 x99 x100 x101 x102 x103 x104 x105 x106 x107 x108 x109 x110 x111 x112 x113 x114 x115 x116 x117 x118 x119 x120 x121 x122 x123 x124 x125 x126 x127 x128 x129 x130 : Value} (w' : World), Hid (LawB W w' r b1 b2 ⟨bA, dA, vA, bc, dc, vc⟩ ⟨bA1, dA1, vA1, bc1, dc1, vc1⟩ ⟨bA2, dA2, vA2, bc2, dc2, vc2⟩) ∧ Hid (Below w7.heap.size w7 w') → Q .normal ⟨(List.toArray (u0 :: (.int .i64 f) :: (.int .i64 t) :: (.slice cA n cc) :: u4 :: u5 :: u6 :: u7 :: x8 :: (.pointer (some ⟨b1, 0, none⟩)) :: (.slice mA n mc) :: (.pointer (some ⟨b2, 0, none⟩)) :: (.pointer (some ⟨tb, 0, none⟩)) :: (.int .i64 er) :: u14 :: x15 :: x16 :: x17 :: x18 :: x19 :: x20 :: x21 :: x22 :: x23 :: u24 :: u25 :: u26 :: u27 :: u28 :: u29 :: u30 :: u31 :: u32 :: u33 :: u34 :: u35 :: u36 :: u37 :: u38 :: u39 :: u40 :: u41 :: u42 :: u43 :: u44 :: u45 :: u46 :: u47 :: u48 :: u49 :: u50 :: u51 :: u52 :: (.slice (some ⟨ab, 0, none⟩) 2 2) :: (.int .i64 2) :: x55 :: x56 :: x57 :: x58 :: x59 :: x60 :: x61 :: x62 :: x63 :: x64 :: x65 :: x66 :: x67 :: x68 :: x69 :: x70 :: x71 :: x72 :: x73 :: x74 :: x75 :: x76 :: x77 :: x78 :: x79 :: x80 :: x81 :: x82 :: x83 :: x84 :: x85 :: x86 :: x87 :: x88 :: x89 :: x90 :: x91 :: x92 :: x93 :: x94 :: x95 :: x96 :: x97 :: x98 :: x99 :: x100 :: x101 :: x102 :: x103 :: x104 :: x105 :: x106 :: x107 :: x108 :: x109 :: x110 :: x111 :: x112 :: x113 :: x114 :: x115 :: x116 :: x117 :: x118 :: x119 :: x120 :: x121 :: x122 :: x123 :: x124 :: x125 :: x126 :: x127 :: x128 :: x129 :: x130 :: u131 :: u132 :: u133 :: u134 :: u135 :: u136 :: u137 :: u138 :: u139 :: u140 :: u141 :: u142 :: u143 :: u144 :: u145 :: u146 :: u147 :: u148 :: u149 :: u150 :: u151 :: u152 :: u153 :: u154 :: u155 :: u156 :: u157 :: u158 :: u159 :: u160 :: u161 :: u162 :: u163 :: u164 :: u165 :: u166 :: u167 :: u168 :: u169 :: u170 :: u171 :: u172 :: u173 :: u174 :: u175 :: u176 :: u177 :: u178 :: u179 :: u180 :: u181 :: u182 :: u183 :: u184 :: u185 :: u186 :: u187 :: u188 :: u189 :: u190 :: u191 :: u192 :: u193 :: u194 :: u195 :: u196 :: u197 :: u198 :: u199 :: u200 :: u201 :: u202 :: u203 :: u204 :: u205 :: u206 :: u207 :: u208 :: [])), []⟩ w') :
    Code.wp Tryz.prog (blkIn Tryz.f7 0) Q ⟨(List.toArray (u0 :: (.int .i64 f) :: (.int .i64 t) :: (.slice cA n cc) :: u4 :: u5 :: u6 :: u7 :: u8 :: (.pointer (some ⟨b1, 0, none⟩)) :: (.slice mA n mc) :: (.pointer (some ⟨b2, 0, none⟩)) :: (.pointer (some ⟨tb, 0, none⟩)) :: (.int .i64 er) :: u14 :: u15 :: u16 :: u17 :: u18 :: u19 :: u20 :: u21 :: u22 :: u23 :: u24 :: u25 :: u26 :: u27 :: u28 :: u29 :: u30 :: u31 :: u32 :: u33 :: u34 :: u35 :: u36 :: u37 :: u38 :: u39 :: u40 :: u41 :: u42 :: u43 :: u44 :: u45 :: u46 :: u47 :: u48 :: u49 :: u50 :: u51 :: u52 :: (.slice (some ⟨ab, 0, none⟩) 2 2) :: (.int .i64 2) :: (.int .i64 0) :: u56 :: u57 :: u58 :: u59 :: u60 :: u61 :: u62 :: u63 :: u64 :: u65 :: u66 :: u67 :: u68 :: u69 :: u70 :: u71 :: u72 :: u73 :: u74 :: u75 :: u76 :: u77 :: u78 :: u79 :: u80 :: u81 :: u82 :: u83 :: u84 :: u85 :: u86 :: u87 :: u88 :: u89 :: u90 :: u91 :: u92 :: u93 :: u94 :: u95 :: u96 :: u97 :: u98 :: u99 :: u100 :: u101 :: u102 :: u103 :: u104 :: u105 :: u106 :: u107 :: u108 :: u109 :: u110 :: u111 :: u112 :: u113 :: u114 :: u115 :: u116 :: u117 :: u118 :: u119 :: u120 :: u121 :: u122 :: u123 :: u124 :: u125 :: u126 :: u127 :: u128 :: u129 :: u130 :: u131 :: u132 :: u133 :: u134 :: u135 :: u136 :: u137 :: u138 :: u139 :: u140 :: u141 :: u142 :: u143 :: u144 :: u145 :: u146 :: u147 :: u148 :: u149 :: u150 :: u151 :: u152 :: u153 :: u154 :: u155 :: u156 :: u157 :: u158 :: u159 :: u160 :: u161 :: u162 :: u163 :: u164 :: u165 :: u166 :: u167 :: u168 :: u169 :: u170 :: u171 :: u172 :: u173 :: u174 :: u175 :: u176 :: u177 :: u178 :: u179 :: u180 :: u181 :: u182 :: u183 :: u184 :: u185 :: u186 :: u187 :: u188 :: u189 :: u190 :: u191 :: u192 :: u193 :: u194 :: u195 :: u196 :: u197 :: u198 :: u199 :: u200 :: u201 :: u202 :: u203 :: u204 :: u205 :: u206 :: u207 :: u208 :: [])), []⟩ w7 := by
  (conv => arg 2; whnf)
  go_wp2_with fail
  go_loopw [55] (fun i wr => ∃ k : Nat, k ≤ 2 ∧ i = .int .i64 k ∧ Hid (LawB W wr r b1 b2 ⟨bA, dA, vA, bc, dc, vc⟩ ⟨bA1, dA1, vA1, bc1, dc1, vc1⟩ ⟨bA2, dA2, vA2, bc2, dc2, vc2⟩) ∧ Hid (Below w7.heap.size w7 wr)) (fun i _ => 2 - (intOf i).toNat)
  case atStart => exact ⟨0, by omega, rfl, HL7, Lib.hid (Below.refl _ _)⟩
  case round =>
    clear HL7
    obtain ⟨k, hk, rfl, HL, HB⟩ := hrel
    obtain ⟨wo, rfl⟩ : ∃ wo, wo = wr := ⟨_, rfl⟩
    have HC := Lib.hid ((HC7.out.below HB.out).mono HB.out.size)
    have HM := Lib.hid ((HM7.out.below HB.out).mono HB.out.size)
    obtain ⟨q0, q1⟩ := HQ7.out
    have q0 := Kb HB.out q0
    have q1 := Kb HB.out q1
    obtain ⟨y0, y1⟩ := HY7.out
    have y0 := Kb HB.out y0
    have y1 := Kb HB.out y1
    clear HC7 HM7 HQ7 HY7
    have hk3 : k = 0 ∨ k = 1 ∨ k = 2 := by omega
    rcases hk3 with rfl | rfl | rfl
    · obtain ⟨c0, c1, c2⟩ := HL.out.s1
      have hgk : (((0 : Nat) : Int)) < 2 := by omega
      go_wp2_with fail
      refine (Shows_any r f t false mA n mc P bA1 dA1 vA1 bc1 dc1 vc1 _ HL.out.r1 HM.out hnbig).mono ?_
      rintro e w8 ⟨rfl, hb8⟩
      have HL8 := Lib.hid (HL.out.later hb8)
      have HC8 := Lib.hid ((HC.out.below hb8).mono hb8.size)
      have HM8 := Lib.hid ((HM.out.below hb8).mono hb8.size)
      have HB8 := Lib.hid (HB.out.trans (hb8.mono HB.out.size))
      have q0 := Kb hb8 q0
      have q1 := Kb hb8 q1
      have y0 := Kb hb8 y0
      have y1 := Kb hb8 y1
      obtain ⟨⟨s1, s2⟩, hss⟩ : ∃ s, s = r.showsR f t false n P := ⟨_, rfl⟩
      have HRS : Hid (∀ (kA : Option Addr) (kc : Nat) (w : World), RwRow w w.heap.size r bA2 bc2 dA2 dc2 vA2 vc2 → FcRow w w.heap.size kA n P → Calls Tryz.prog 40 #[rwV bA2 r.n bc2 dA2 r.d dc2 vA2 r.m vc2, .int .i64 f, .int .i64 t, .bool false, .slice kA n kc] w fun e w' => e = .returned (.tuple #[.int .i64 s1, .int .i64 s2]) ∧ Below w.heap.size w w') := Lib.hid (fun kA kc w h1 h2 => by have h := rShows_any r f t false kA n kc P bA2 dA2 vA2 bc2 dc2 vc2 w h1 h2 hnbig; rw [← hss] at h; exact h)
      rw [← hss]
      clear hb8 HL HC HM HB c0 c1 c2 hss
      obtain ⟨c0, c1, c2⟩ := HL8.out.s2
      go_upto_region 9 with fail
      go_cut [18, 19] from 56 to 130 (fun x y wx => x = .int .i64 s1 ∧ y = .int .i64 s2 ∧ Hid (Below w8.heap.size w8 wx))
      case first =>
        go_region_held3 (fun w' => w'.cell? ⟨b2, 0, none⟩ = some (.slice bA2 r.n bc2) ∧ w'.cell? ⟨b2, 1, none⟩ = some (.slice dA2 r.d dc2) ∧ w'.cell? ⟨b2, 2, none⟩ = some (.slice vA2 r.m vc2)) ((go_split_ands; (repeat' refine And.intro ?_ ?_) <;> (repeat (first | with_reducible assumption | (simp; done) | (with_reducible first | refine Kd ?_ | refine Kn ?_ | refine Kb (by assumption) ?_) | ((with_reducible first | refine Kw ?_ ?_ | refine Fw ?_) <;> first | with_reducible rfl | (simp; done)) | (with_reducible first | refine Ka _ ?_ | refine Ks _ (by first | exact Nat.le_refl _ | omega | (simp; done) | (simp; omega)) ?_ | refine Fd ?_ | refine Fn ?_ | refine Fb (by assumption) (by first | exact Nat.le_refl _ | omega | (simp; done) | (simp; omega)) ?_ | refine Fa _ (by first | exact Nat.le_refl _ | omega | (simp; done) | (simp; omega)) ?_ | refine Fs _ ?_))))) (first | (go_at_call 41; refine (walked_any cA n cc P _ hn1000 ((HC8.out.below (show Below w8.heap.size w8 _ from (by repeat (first | (with_reducible first | exact Below.refl _ _ | refine Below.drew ?_ | refine below_drewN ?_ _) | ((with_reducible first | refine Lc ?_ ?_ _ | refine Ls ?_ ?_ _ | refine Lv (by assumption) ?_ ?_); · first | exact Nat.le_refl _ | omega | (simp; done) | (simp; omega) | (simp at *; omega)))))).mono (show Below w8.heap.size w8 _ from (by repeat (first | (with_reducible first | exact Below.refl _ _ | refine Below.drew ?_ | refine below_drewN ?_ _) | ((with_reducible first | refine Lc ?_ ?_ _ | refine Ls ?_ ?_ _ | refine Lv (by assumption) ?_ ?_); · first | exact Nat.le_refl _ | omega | (simp; done) | (simp; omega) | (simp at *; omega))))).size)).mono ?_; rintro e wk ⟨⟨kA, kc, rfl, hkr⟩, hbk⟩; have hhK := Lib.hid (show Below w8.heap.size w8 wk from (by repeat (first | (with_reducible first | exact Below.refl _ _ | assumption | refine Below.drew ?_) | ((with_reducible first | refine Lc ?_ ?_ _ | refine Ls ?_ ?_ _ | refine Lv (by assumption) ?_ ?_); · first | exact Nat.le_refl _ | omega | (dsimp only; omega) | (simp only [World.size_alloc, World.size_drew, World.heap_drewN]; omega) | (simp; omega))))); have hKR := Lib.hid hkr; clear hkr) | (go_at_call 40; refine (HRS.out kA kc _ (RwRow.onW HL8.out.r2 (hhK.out.trans ((show Below wk.heap.size wk _ from (by repeat (first | (with_reducible first | exact Below.refl _ _ | refine Below.drew ?_ | refine below_drewN ?_ _) | ((with_reducible first | refine Lc ?_ ?_ _ | refine Ls ?_ ?_ _ | refine Lv (by assumption) ?_ ?_); · first | exact Nat.le_refl _ | omega | (simp; done) | (simp; omega) | (simp at *; omega))))).mono hhK.out.size))) ((hKR.out.below (show Below wk.heap.size wk _ from (by repeat (first | (with_reducible first | exact Below.refl _ _ | refine Below.drew ?_ | refine below_drewN ?_ _) | ((with_reducible first | refine Lc ?_ ?_ _ | refine Ls ?_ ?_ _ | refine Lv (by assumption) ?_ ?_); · first | exact Nat.le_refl _ | omega | (simp; done) | (simp; omega) | (simp at *; omega)))))).mono (show Below wk.heap.size wk _ from (by repeat (first | (with_reducible first | exact Below.refl _ _ | refine Below.drew ?_ | refine below_drewN ?_ _) | ((with_reducible first | refine Lc ?_ ?_ _ | refine Ls ?_ ?_ _ | refine Lv (by assumption) ?_ ?_); · first | exact Nat.le_refl _ | omega | (simp; done) | (simp; omega) | (simp at *; omega))))).size)).mono ?_; rintro e wv ⟨rfl, hbv⟩; have hhV := Lib.hid (show Below w8.heap.size w8 wv from hhK.out.trans ((show Below wk.heap.size wk wv from (by repeat (first | (with_reducible first | exact Below.refl _ _ | assumption | refine Below.drew ?_) | ((with_reducible first | refine Lc ?_ ?_ _ | refine Ls ?_ ?_ _ | refine Lv (by assumption) ?_ ?_); · first | exact Nat.le_refl _ | omega | (dsimp only; omega) | (simp only [World.size_alloc, World.size_drew, World.heap_drewN]; omega) | (simp; omega))))).mono hhK.out.size))) | fail)
        all_goals
          go_wp2_with fail
          go_meet
          exact ⟨rfl, rfl, Lib.hid (by first | exact hhV.out | exact below_drewN hhV.out _ | exact hhV.out.drew)⟩
      case rest =>
        obtain ⟨rfl, rfl, hb9⟩ := hcut
        have hb9 := hb9.out
        have HL9 := Lib.hid (HL8.out.later hb9)
        have HC9 := Lib.hid ((HC8.out.below hb9).mono hb9.size)
        have HM9 := Lib.hid ((HM8.out.below hb9).mono hb9.size)
        have HB9 := Lib.hid (HB8.out.trans (hb9.mono HB8.out.size))
        have q0 := Kb hb9 q0
        have q1 := Kb hb9 q1
        have hn1 : (s1 != s1) = false := by simp
        have hn2 : (s2 != s2) = false := by simp
        clear hb9 HL8 HC8 HM8 HB8 c0 c1 c2 y0 y1 HRS
        obtain ⟨c0, c1, c2⟩ := HL9.out.s1
        by_cases h0 : er = 0
        · have hask : r.askErr f t = 0 := by rw [← HER.out]; exact h0
          have HASK := Lib.hid hask
          have HSS := Lib.hid HS.out
          clear hask
          subst h0
          go_wp2_with fail
          refine (Why_any r f t false bA1 dA1 vA1 bc1 dc1 vc1 _ HL9.out.r1).mono ?_
          intro e w10 hp
          rcases hp with ⟨hask, l, kA0, kc0, rfl, hown, hch, hws, hln, hb10⟩ | ⟨hask, _, _⟩
          · obtain ⟨A', c', e1, ho, _⟩ := ownFc_of hown rfl
            injection e1 with e1 _ e3
            subst e1 e3
            obtain ⟨hl6, hsh⟩ := ask_shows hask false hch hws hln
            have hl1000 : l.length ≤ 1000 := by omega
            have hlbig : l.length ≤ 1000000000 := by omega
            have HP10 := Lib.hid ho.row
            have HL10 := Lib.hid (HL9.out.later hb10)
            have HC10 := Lib.hid ((HC9.out.below hb10).mono hb10.size)
            have HM10 := Lib.hid ((HM9.out.below hb10).mono hb10.size)
            have HB10 := Lib.hid (HB9.out.trans (hb10.mono HB9.out.size))
            have q0 := Kb hb10 q0
            have q1 := Kb hb10 q1
            have hsh2 : r.showsR f t false l.length (fun k => l.getD k fc0) = (s.a, 0) := by rw [hsh, HSS.out]; rfl
            have HRS : Hid (∀ (kA : Option Addr) (kc : Nat) (w : World), RwRow w w.heap.size r bA2 bc2 dA2 dc2 vA2 vc2 → FcRow w w.heap.size kA l.length (fun k => l.getD k fc0) → Calls Tryz.prog 40 #[rwV bA2 r.n bc2 dA2 r.d dc2 vA2 r.m vc2, .int .i64 f, .int .i64 t, .bool false, .slice kA l.length kc] w fun e w' => e = .returned (.tuple #[.int .i64 s.a, .int .i64 0]) ∧ Below w.heap.size w w') := Lib.hid (fun kA kc w h1 h2 => by have h := rShows_any r f t false kA l.length kc (fun k => l.getD k fc0) bA2 dA2 vA2 bc2 dc2 vc2 w h1 h2 hlbig; rw [hsh2] at h; exact h)
            clear hb10 hown ho hch hws hln hask hsh hsh2 HL9 HC9 HM9 HB9 c0 c1 c2 hn1 hn2
            obtain ⟨c0, c1, c2⟩ := HL10.out.s2
            go_upto_region 19 with fail
            go_cut [22, 23] from 56 to 130 (fun x y wx => x = .int .i64 s.a ∧ y = .int .i64 0 ∧ Hid (Below w10.heap.size w10 wx))
            case first =>
              go_region_held3 (fun w' => w'.cell? ⟨b2, 0, none⟩ = some (.slice bA2 r.n bc2) ∧ w'.cell? ⟨b2, 1, none⟩ = some (.slice dA2 r.d dc2) ∧ w'.cell? ⟨b2, 2, none⟩ = some (.slice vA2 r.m vc2)) ((go_split_ands; (repeat' refine And.intro ?_ ?_) <;> (repeat (first | with_reducible assumption | (simp; done) | (with_reducible first | refine Kd ?_ | refine Kn ?_ | refine Kb (by assumption) ?_) | ((with_reducible first | refine Kw ?_ ?_ | refine Fw ?_) <;> first | with_reducible rfl | (simp; done)) | (with_reducible first | refine Ka _ ?_ | refine Ks _ (by first | exact Nat.le_refl _ | omega | (simp; done) | (simp; omega)) ?_ | refine Fd ?_ | refine Fn ?_ | refine Fb (by assumption) (by first | exact Nat.le_refl _ | omega | (simp; done) | (simp; omega)) ?_ | refine Fa _ (by first | exact Nat.le_refl _ | omega | (simp; done) | (simp; omega)) ?_ | refine Fs _ ?_))))) (first | (go_at_call 41; refine (walked_any kA0 l.length kc0 (fun k => l.getD k fc0) _ hl1000 ((HP10.out.below (show Below w10.heap.size w10 _ from (by repeat (first | (with_reducible first | exact Below.refl _ _ | refine Below.drew ?_ | refine below_drewN ?_ _) | ((with_reducible first | refine Lc ?_ ?_ _ | refine Ls ?_ ?_ _ | refine Lv (by assumption) ?_ ?_); · first | exact Nat.le_refl _ | omega | (simp; done) | (simp; omega) | (simp at *; omega)))))).mono (show Below w10.heap.size w10 _ from (by repeat (first | (with_reducible first | exact Below.refl _ _ | refine Below.drew ?_ | refine below_drewN ?_ _) | ((with_reducible first | refine Lc ?_ ?_ _ | refine Ls ?_ ?_ _ | refine Lv (by assumption) ?_ ?_); · first | exact Nat.le_refl _ | omega | (simp; done) | (simp; omega) | (simp at *; omega))))).size)).mono ?_; rintro e wk ⟨⟨kA, kc, rfl, hkr⟩, hbk⟩; have hhK := Lib.hid (show Below w10.heap.size w10 wk from (by repeat (first | (with_reducible first | exact Below.refl _ _ | assumption | refine Below.drew ?_) | ((with_reducible first | refine Lc ?_ ?_ _ | refine Ls ?_ ?_ _ | refine Lv (by assumption) ?_ ?_); · first | exact Nat.le_refl _ | omega | (dsimp only; omega) | (simp only [World.size_alloc, World.size_drew, World.heap_drewN]; omega) | (simp; omega))))); have hKR := Lib.hid hkr; clear hkr) | (go_at_call 40; refine (HRS.out kA kc _ (RwRow.onW HL10.out.r2 (hhK.out.trans ((show Below wk.heap.size wk _ from (by repeat (first | (with_reducible first | exact Below.refl _ _ | refine Below.drew ?_ | refine below_drewN ?_ _) | ((with_reducible first | refine Lc ?_ ?_ _ | refine Ls ?_ ?_ _ | refine Lv (by assumption) ?_ ?_); · first | exact Nat.le_refl _ | omega | (simp; done) | (simp; omega) | (simp at *; omega))))).mono hhK.out.size))) ((hKR.out.below (show Below wk.heap.size wk _ from (by repeat (first | (with_reducible first | exact Below.refl _ _ | refine Below.drew ?_ | refine below_drewN ?_ _) | ((with_reducible first | refine Lc ?_ ?_ _ | refine Ls ?_ ?_ _ | refine Lv (by assumption) ?_ ?_); · first | exact Nat.le_refl _ | omega | (simp; done) | (simp; omega) | (simp at *; omega)))))).mono (show Below wk.heap.size wk _ from (by repeat (first | (with_reducible first | exact Below.refl _ _ | refine Below.drew ?_ | refine below_drewN ?_ _) | ((with_reducible first | refine Lc ?_ ?_ _ | refine Ls ?_ ?_ _ | refine Lv (by assumption) ?_ ?_); · first | exact Nat.le_refl _ | omega | (simp; done) | (simp; omega) | (simp at *; omega))))).size)).mono ?_; rintro e wv ⟨rfl, hbv⟩; have hhV := Lib.hid (show Below w10.heap.size w10 wv from hhK.out.trans ((show Below wk.heap.size wk wv from (by repeat (first | (with_reducible first | exact Below.refl _ _ | assumption | refine Below.drew ?_) | ((with_reducible first | refine Lc ?_ ?_ _ | refine Ls ?_ ?_ _ | refine Lv (by assumption) ?_ ?_); · first | exact Nat.le_refl _ | omega | (dsimp only; omega) | (simp only [World.size_alloc, World.size_drew, World.heap_drewN]; omega) | (simp; omega))))).mono hhK.out.size))) | fail)
              all_goals
                go_wp2_with fail
                go_meet
                exact ⟨rfl, rfl, Lib.hid (by first | exact hhV.out | exact below_drewN hhV.out _ | exact hhV.out.drew)⟩
            case rest =>
              obtain ⟨rfl, rfl, hb11⟩ := hcut
              have hb11 := hb11.out
              have HLZ := Lib.hid (HL10.out.later hb11)
              have HBZ := Lib.hid (HB10.out.trans (hb11.mono HB10.out.size))
              have hn1 : (s.a != s.a) = false := by simp
              clear hb11 HL10 HC10 HM10 HB10 c0 c1 c2 HRS q0 q1
              go_wp2_with fail
              refine ⟨?_, ?measure⟩
              case measure => simp [intOf]
              exact ⟨1, by omega, by simp, HLZ, HBZ⟩
          · exact absurd HASK.out hask
        · have hask : r.askErr f t ≠ 0 := by rw [← HER.out]; exact h0
          have HASK := Lib.hid hask
          have hne : (er != 0) = true := by simpa using h0
          have hee : (er != er) = false := by simp
          clear hask h0
          go_wp2_with fail
          refine (Why_any r f t false bA1 dA1 vA1 bc1 dc1 vc1 _ HL9.out.r1).mono ?_
          intro e w10 hp
          rcases hp with ⟨hask, _⟩ | ⟨hask, rfl, hb10⟩
          · exact absurd hask HASK.out
          · rw [← HER.out]
            have HLZ := Lib.hid (HL9.out.later hb10)
            have HBZ := Lib.hid (HB9.out.trans (hb10.mono HB9.out.size))
            clear hb10 hask HL9 HC9 HM9 HB9 c0 c1 c2 q0 q1 hn1 hn2
            go_wp2_with fail
            refine ⟨?_, ?measure⟩
            case measure => simp [intOf]
            exact ⟨1, by omega, by simp, HLZ, HBZ⟩
    · obtain ⟨c0, c1, c2⟩ := HL.out.s1
      have hgk : (((1 : Nat) : Int)) < 2 := by omega
      go_wp2_with fail
      refine (Shows_any r f t true mA n mc P bA1 dA1 vA1 bc1 dc1 vc1 _ HL.out.r1 HM.out hnbig).mono ?_
      rintro e w8 ⟨rfl, hb8⟩
      have HL8 := Lib.hid (HL.out.later hb8)
      have HC8 := Lib.hid ((HC.out.below hb8).mono hb8.size)
      have HM8 := Lib.hid ((HM.out.below hb8).mono hb8.size)
      have HB8 := Lib.hid (HB.out.trans (hb8.mono HB.out.size))
      have q0 := Kb hb8 q0
      have q1 := Kb hb8 q1
      have y0 := Kb hb8 y0
      have y1 := Kb hb8 y1
      obtain ⟨⟨s1, s2⟩, hss⟩ : ∃ s, s = r.showsR f t true n P := ⟨_, rfl⟩
      have HRS : Hid (∀ (kA : Option Addr) (kc : Nat) (w : World), RwRow w w.heap.size r bA2 bc2 dA2 dc2 vA2 vc2 → FcRow w w.heap.size kA n P → Calls Tryz.prog 40 #[rwV bA2 r.n bc2 dA2 r.d dc2 vA2 r.m vc2, .int .i64 f, .int .i64 t, .bool true, .slice kA n kc] w fun e w' => e = .returned (.tuple #[.int .i64 s1, .int .i64 s2]) ∧ Below w.heap.size w w') := Lib.hid (fun kA kc w h1 h2 => by have h := rShows_any r f t true kA n kc P bA2 dA2 vA2 bc2 dc2 vc2 w h1 h2 hnbig; rw [← hss] at h; exact h)
      rw [← hss]
      clear hb8 HL HC HM HB c0 c1 c2 hss
      obtain ⟨c0, c1, c2⟩ := HL8.out.s2
      go_upto_region 9 with fail
      go_cut [18, 19] from 56 to 130 (fun x y wx => x = .int .i64 s1 ∧ y = .int .i64 s2 ∧ Hid (Below w8.heap.size w8 wx))
      case first =>
        go_region_held3 (fun w' => w'.cell? ⟨b2, 0, none⟩ = some (.slice bA2 r.n bc2) ∧ w'.cell? ⟨b2, 1, none⟩ = some (.slice dA2 r.d dc2) ∧ w'.cell? ⟨b2, 2, none⟩ = some (.slice vA2 r.m vc2)) ((go_split_ands; (repeat' refine And.intro ?_ ?_) <;> (repeat (first | with_reducible assumption | (simp; done) | (with_reducible first | refine Kd ?_ | refine Kn ?_ | refine Kb (by assumption) ?_) | ((with_reducible first | refine Kw ?_ ?_ | refine Fw ?_) <;> first | with_reducible rfl | (simp; done)) | (with_reducible first | refine Ka _ ?_ | refine Ks _ (by first | exact Nat.le_refl _ | omega | (simp; done) | (simp; omega)) ?_ | refine Fd ?_ | refine Fn ?_ | refine Fb (by assumption) (by first | exact Nat.le_refl _ | omega | (simp; done) | (simp; omega)) ?_ | refine Fa _ (by first | exact Nat.le_refl _ | omega | (simp; done) | (simp; omega)) ?_ | refine Fs _ ?_))))) (first | (go_at_call 41; refine (walked_any cA n cc P _ hn1000 ((HC8.out.below (show Below w8.heap.size w8 _ from (by repeat (first | (with_reducible first | exact Below.refl _ _ | refine Below.drew ?_ | refine below_drewN ?_ _) | ((with_reducible first | refine Lc ?_ ?_ _ | refine Ls ?_ ?_ _ | refine Lv (by assumption) ?_ ?_); · first | exact Nat.le_refl _ | omega | (simp; done) | (simp; omega) | (simp at *; omega)))))).mono (show Below w8.heap.size w8 _ from (by repeat (first | (with_reducible first | exact Below.refl _ _ | refine Below.drew ?_ | refine below_drewN ?_ _) | ((with_reducible first | refine Lc ?_ ?_ _ | refine Ls ?_ ?_ _ | refine Lv (by assumption) ?_ ?_); · first | exact Nat.le_refl _ | omega | (simp; done) | (simp; omega) | (simp at *; omega))))).size)).mono ?_; rintro e wk ⟨⟨kA, kc, rfl, hkr⟩, hbk⟩; have hhK := Lib.hid (show Below w8.heap.size w8 wk from (by repeat (first | (with_reducible first | exact Below.refl _ _ | assumption | refine Below.drew ?_) | ((with_reducible first | refine Lc ?_ ?_ _ | refine Ls ?_ ?_ _ | refine Lv (by assumption) ?_ ?_); · first | exact Nat.le_refl _ | omega | (dsimp only; omega) | (simp only [World.size_alloc, World.size_drew, World.heap_drewN]; omega) | (simp; omega))))); have hKR := Lib.hid hkr; clear hkr) | (go_at_call 40; refine (HRS.out kA kc _ (RwRow.onW HL8.out.r2 (hhK.out.trans ((show Below wk.heap.size wk _ from (by repeat (first | (with_reducible first | exact Below.refl _ _ | refine Below.drew ?_ | refine below_drewN ?_ _) | ((with_reducible first | refine Lc ?_ ?_ _ | refine Ls ?_ ?_ _ | refine Lv (by assumption) ?_ ?_); · first | exact Nat.le_refl _ | omega | (simp; done) | (simp; omega) | (simp at *; omega))))).mono hhK.out.size))) ((hKR.out.below (show Below wk.heap.size wk _ from (by repeat (first | (with_reducible first | exact Below.refl _ _ | refine Below.drew ?_ | refine below_drewN ?_ _) | ((with_reducible first | refine Lc ?_ ?_ _ | refine Ls ?_ ?_ _ | refine Lv (by assumption) ?_ ?_); · first | exact Nat.le_refl _ | omega | (simp; done) | (simp; omega) | (simp at *; omega)))))).mono (show Below wk.heap.size wk _ from (by repeat (first | (with_reducible first | exact Below.refl _ _ | refine Below.drew ?_ | refine below_drewN ?_ _) | ((with_reducible first | refine Lc ?_ ?_ _ | refine Ls ?_ ?_ _ | refine Lv (by assumption) ?_ ?_); · first | exact Nat.le_refl _ | omega | (simp; done) | (simp; omega) | (simp at *; omega))))).size)).mono ?_; rintro e wv ⟨rfl, hbv⟩; have hhV := Lib.hid (show Below w8.heap.size w8 wv from hhK.out.trans ((show Below wk.heap.size wk wv from (by repeat (first | (with_reducible first | exact Below.refl _ _ | assumption | refine Below.drew ?_) | ((with_reducible first | refine Lc ?_ ?_ _ | refine Ls ?_ ?_ _ | refine Lv (by assumption) ?_ ?_); · first | exact Nat.le_refl _ | omega | (dsimp only; omega) | (simp only [World.size_alloc, World.size_drew, World.heap_drewN]; omega) | (simp; omega))))).mono hhK.out.size))) | fail)
        all_goals
          go_wp2_with fail
          go_meet
          exact ⟨rfl, rfl, Lib.hid (by first | exact hhV.out | exact below_drewN hhV.out _ | exact hhV.out.drew)⟩
      case rest =>
        obtain ⟨rfl, rfl, hb9⟩ := hcut
        have hb9 := hb9.out
        have HL9 := Lib.hid (HL8.out.later hb9)
        have HC9 := Lib.hid ((HC8.out.below hb9).mono hb9.size)
        have HM9 := Lib.hid ((HM8.out.below hb9).mono hb9.size)
        have HB9 := Lib.hid (HB8.out.trans (hb9.mono HB8.out.size))
        have q0 := Kb hb9 q0
        have q1 := Kb hb9 q1
        have hn1 : (s1 != s1) = false := by simp
        have hn2 : (s2 != s2) = false := by simp
        clear hb9 HL8 HC8 HM8 HB8 c0 c1 c2 y0 y1 HRS
        obtain ⟨c0, c1, c2⟩ := HL9.out.s1
        by_cases h0 : er = 0
        · have hask : r.askErr f t = 0 := by rw [← HER.out]; exact h0
          have HASK := Lib.hid hask
          have HSS := Lib.hid HS.out
          clear hask
          subst h0
          go_wp2_with fail
          refine (Why_any r f t true bA1 dA1 vA1 bc1 dc1 vc1 _ HL9.out.r1).mono ?_
          intro e w10 hp
          rcases hp with ⟨hask, l, kA0, kc0, rfl, hown, hch, hws, hln, hb10⟩ | ⟨hask, _, _⟩
          · obtain ⟨A', c', e1, ho, _⟩ := ownFc_of hown rfl
            injection e1 with e1 _ e3
            subst e1 e3
            obtain ⟨hl6, hsh⟩ := ask_shows hask true hch hws hln
            have hl1000 : l.length ≤ 1000 := by omega
            have hlbig : l.length ≤ 1000000000 := by omega
            have HP10 := Lib.hid ho.row
            have HL10 := Lib.hid (HL9.out.later hb10)
            have HC10 := Lib.hid ((HC9.out.below hb10).mono hb10.size)
            have HM10 := Lib.hid ((HM9.out.below hb10).mono hb10.size)
            have HB10 := Lib.hid (HB9.out.trans (hb10.mono HB9.out.size))
            have q0 := Kb hb10 q0
            have q1 := Kb hb10 q1
            have hsh2 : r.showsR f t true l.length (fun k => l.getD k fc0) = (s.b, 0) := by rw [hsh, HSS.out]; rfl
            have HRS : Hid (∀ (kA : Option Addr) (kc : Nat) (w : World), RwRow w w.heap.size r bA2 bc2 dA2 dc2 vA2 vc2 → FcRow w w.heap.size kA l.length (fun k => l.getD k fc0) → Calls Tryz.prog 40 #[rwV bA2 r.n bc2 dA2 r.d dc2 vA2 r.m vc2, .int .i64 f, .int .i64 t, .bool true, .slice kA l.length kc] w fun e w' => e = .returned (.tuple #[.int .i64 s.b, .int .i64 0]) ∧ Below w.heap.size w w') := Lib.hid (fun kA kc w h1 h2 => by have h := rShows_any r f t true kA l.length kc (fun k => l.getD k fc0) bA2 dA2 vA2 bc2 dc2 vc2 w h1 h2 hlbig; rw [hsh2] at h; exact h)
            clear hb10 hown ho hch hws hln hask hsh hsh2 HL9 HC9 HM9 HB9 c0 c1 c2 hn1 hn2
            obtain ⟨c0, c1, c2⟩ := HL10.out.s2
            go_upto_region 19 with fail
            go_cut [22, 23] from 56 to 130 (fun x y wx => x = .int .i64 s.b ∧ y = .int .i64 0 ∧ Hid (Below w10.heap.size w10 wx))
            case first =>
              go_region_held3 (fun w' => w'.cell? ⟨b2, 0, none⟩ = some (.slice bA2 r.n bc2) ∧ w'.cell? ⟨b2, 1, none⟩ = some (.slice dA2 r.d dc2) ∧ w'.cell? ⟨b2, 2, none⟩ = some (.slice vA2 r.m vc2)) ((go_split_ands; (repeat' refine And.intro ?_ ?_) <;> (repeat (first | with_reducible assumption | (simp; done) | (with_reducible first | refine Kd ?_ | refine Kn ?_ | refine Kb (by assumption) ?_) | ((with_reducible first | refine Kw ?_ ?_ | refine Fw ?_) <;> first | with_reducible rfl | (simp; done)) | (with_reducible first | refine Ka _ ?_ | refine Ks _ (by first | exact Nat.le_refl _ | omega | (simp; done) | (simp; omega)) ?_ | refine Fd ?_ | refine Fn ?_ | refine Fb (by assumption) (by first | exact Nat.le_refl _ | omega | (simp; done) | (simp; omega)) ?_ | refine Fa _ (by first | exact Nat.le_refl _ | omega | (simp; done) | (simp; omega)) ?_ | refine Fs _ ?_))))) (first | (go_at_call 41; refine (walked_any kA0 l.length kc0 (fun k => l.getD k fc0) _ hl1000 ((HP10.out.below (show Below w10.heap.size w10 _ from (by repeat (first | (with_reducible first | exact Below.refl _ _ | refine Below.drew ?_ | refine below_drewN ?_ _) | ((with_reducible first | refine Lc ?_ ?_ _ | refine Ls ?_ ?_ _ | refine Lv (by assumption) ?_ ?_); · first | exact Nat.le_refl _ | omega | (simp; done) | (simp; omega) | (simp at *; omega)))))).mono (show Below w10.heap.size w10 _ from (by repeat (first | (with_reducible first | exact Below.refl _ _ | refine Below.drew ?_ | refine below_drewN ?_ _) | ((with_reducible first | refine Lc ?_ ?_ _ | refine Ls ?_ ?_ _ | refine Lv (by assumption) ?_ ?_); · first | exact Nat.le_refl _ | omega | (simp; done) | (simp; omega) | (simp at *; omega))))).size)).mono ?_; rintro e wk ⟨⟨kA, kc, rfl, hkr⟩, hbk⟩; have hhK := Lib.hid (show Below w10.heap.size w10 wk from (by repeat (first | (with_reducible first | exact Below.refl _ _ | assumption | refine Below.drew ?_) | ((with_reducible first | refine Lc ?_ ?_ _ | refine Ls ?_ ?_ _ | refine Lv (by assumption) ?_ ?_); · first | exact Nat.le_refl _ | omega | (dsimp only; omega) | (simp only [World.size_alloc, World.size_drew, World.heap_drewN]; omega) | (simp; omega))))); have hKR := Lib.hid hkr; clear hkr) | (go_at_call 40; refine (HRS.out kA kc _ (RwRow.onW HL10.out.r2 (hhK.out.trans ((show Below wk.heap.size wk _ from (by repeat (first | (with_reducible first | exact Below.refl _ _ | refine Below.drew ?_ | refine below_drewN ?_ _) | ((with_reducible first | refine Lc ?_ ?_ _ | refine Ls ?_ ?_ _ | refine Lv (by assumption) ?_ ?_); · first | exact Nat.le_refl _ | omega | (simp; done) | (simp; omega) | (simp at *; omega))))).mono hhK.out.size))) ((hKR.out.below (show Below wk.heap.size wk _ from (by repeat (first | (with_reducible first | exact Below.refl _ _ | refine Below.drew ?_ | refine below_drewN ?_ _) | ((with_reducible first | refine Lc ?_ ?_ _ | refine Ls ?_ ?_ _ | refine Lv (by assumption) ?_ ?_); · first | exact Nat.le_refl _ | omega | (simp; done) | (simp; omega) | (simp at *; omega)))))).mono (show Below wk.heap.size wk _ from (by repeat (first | (with_reducible first | exact Below.refl _ _ | refine Below.drew ?_ | refine below_drewN ?_ _) | ((with_reducible first | refine Lc ?_ ?_ _ | refine Ls ?_ ?_ _ | refine Lv (by assumption) ?_ ?_); · first | exact Nat.le_refl _ | omega | (simp; done) | (simp; omega) | (simp at *; omega))))).size)).mono ?_; rintro e wv ⟨rfl, hbv⟩; have hhV := Lib.hid (show Below w10.heap.size w10 wv from hhK.out.trans ((show Below wk.heap.size wk wv from (by repeat (first | (with_reducible first | exact Below.refl _ _ | assumption | refine Below.drew ?_) | ((with_reducible first | refine Lc ?_ ?_ _ | refine Ls ?_ ?_ _ | refine Lv (by assumption) ?_ ?_); · first | exact Nat.le_refl _ | omega | (dsimp only; omega) | (simp only [World.size_alloc, World.size_drew, World.heap_drewN]; omega) | (simp; omega))))).mono hhK.out.size))) | fail)
              all_goals
                go_wp2_with fail
                go_meet
                exact ⟨rfl, rfl, Lib.hid (by first | exact hhV.out | exact below_drewN hhV.out _ | exact hhV.out.drew)⟩
            case rest =>
              obtain ⟨rfl, rfl, hb11⟩ := hcut
              have hb11 := hb11.out
              have HLZ := Lib.hid (HL10.out.later hb11)
              have HBZ := Lib.hid (HB10.out.trans (hb11.mono HB10.out.size))
              have hn1 : (s.b != s.b) = false := by simp
              clear hb11 HL10 HC10 HM10 HB10 c0 c1 c2 HRS q0 q1
              go_wp2_with fail
              refine ⟨?_, ?measure⟩
              case measure => simp [intOf]
              exact ⟨2, by omega, by simp, HLZ, HBZ⟩
          · exact absurd HASK.out hask
        · have hask : r.askErr f t ≠ 0 := by rw [← HER.out]; exact h0
          have HASK := Lib.hid hask
          have hne : (er != 0) = true := by simpa using h0
          have hee : (er != er) = false := by simp
          clear hask h0
          go_wp2_with fail
          refine (Why_any r f t true bA1 dA1 vA1 bc1 dc1 vc1 _ HL9.out.r1).mono ?_
          intro e w10 hp
          rcases hp with ⟨hask, _⟩ | ⟨hask, rfl, hb10⟩
          · exact absurd hask HASK.out
          · rw [← HER.out]
            have HLZ := Lib.hid (HL9.out.later hb10)
            have HBZ := Lib.hid (HB9.out.trans (hb10.mono HB9.out.size))
            clear hb10 hask HL9 HC9 HM9 HB9 c0 c1 c2 q0 q1 hn1 hn2
            go_wp2_with fail
            refine ⟨?_, ?measure⟩
            case measure => simp [intOf]
            exact ⟨2, by omega, by simp, HLZ, HBZ⟩
    · have hge : ¬ (((2 : Nat) : Int)) < 2 := by omega
      clear q0 q1 y0 y1
      go_wp2_with fail
      all_goals exact hK _ ⟨HL, HB⟩
end Go.Proofs.YtnnikeolgknfoaaGreat
