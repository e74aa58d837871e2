/- bin.opened's regions in its search, each by itself. -/
import Derived.Test.YtnnikeolgknfoaaGreatBi
set_option linter.unusedSimpArgs false
set_option linter.unusedVariables false
namespace Go.Proofs.YtnnikeolgknfoaaGreat
open Go.RowKit Go.Shelf

/-- the region of a number, wherever it stands -/
def rgOf (n : Nat) : Code → Option Code
  | .region m ops b => match Nat.beq m n with
    | true => some (.region m ops b)
    | false => none
  | .block _ b => rgOf n b
  | .seq x y => match rgOf n x with
    | some c => some c
    | none => rgOf n y
  | .loop b => rgOf n b
  | .cond _ x y => match rgOf n x with
    | some c => some c
    | none => rgOf n y
  | .scope b => rgOf n b
  | _ => none
def rgIn (f : Func) (n : Nat) : Code := (rgOf n (f.body.getD .skip)).getD .skip
theorem cell_ne {w : World} {b i j : Nat} {u v : Value} (hne : i ≠ j) (h : w.cell? ⟨b, i, none⟩ = some v) : (w.setCell ⟨b, j, none⟩ u).cell? ⟨b, i, none⟩ = some v := by
  rw [World.cell?_setCell_other _ _ _ _ (by intro e; injection e with _ e _; omega)]; exact h
theorem fcL_app (l m : List Fc) : fcL (l ++ m) = fcL l ++ fcL m := by simp [fcL]
theorem own_some {w : World} {base n : Nat} {A : Option Addr} {c : Nat} {l : List Fc} (h : w.ownsRow base 76 3 (.slice A n c) n (fcL l)) (hn : n = l.length) (hl : l ≠ []) : ∃ g, A = some ⟨g, 0, none⟩ := by
  subst hn
  rcases h.2 with ⟨e, h0⟩ | ⟨g, cap, cur, e, _⟩
  · exact absurd (List.length_eq_zero_iff.1 h0) hl
  · injection e with e _ _; exact ⟨g, e⟩
theorem DkAt.over {w w' : World} {B B' db : Nat} {r : Rw} {S : Sk} {bA : Option Addr} {bc : Nat} {dA : Option Addr} {dc : Nat} {vA : Option Addr} {vc : Nat} {v : Value} (h : DkAt w B db r S bA bc dA dc vA vc v) (hlt : db < B') (hB : B ≤ B') (hb : Below B' w w') : DkAt w' B db r S bA bc dA dc vA vc v := by
  have hs := hb.block db hlt
  exact ⟨⟨h.a.a.same hs, h.a.r.later (hb.mono hB)⟩, h.l.same hs, h.f.same hs, cell_same hs h.rd, fun i => fro_same hs (h.fz i)⟩
/-- the walk that contradicts is written down -/
theorem DkAt.setR {w : World} {B db : Nat} {r : Rw} {S : Sk} {bA : Option Addr} {bc : Nat} {dA : Option Addr} {dc : Nat} {vA : Option Addr} {vc : Nat} {v : Value} (h : DkAt w B db r S bA bc dA dc vA vc v) (hB : B ≤ db) (h6 : r.n ≤ 6) (z : Value) : DkAt (w.setCell ⟨db, 199, none⟩ z) B db r S bA bc dA dc vA vc z := by
  have o : ∀ j u, j ≠ 199 → w.cell? ⟨db, j, none⟩ = some u → (w.setCell ⟨db, 199, none⟩ z).cell? ⟨db, j, none⟩ = some u := fun j u hj h => cell_ne hj h
  refine ⟨⟨⟨o 0 _ (by omega) h.a.a.c0, o 1 _ (by omega) h.a.a.c1, o 2 _ (by omega) h.a.a.c2⟩, h.a.r.later ((Below.refl _ _).setCell hB _)⟩, fun x y hx hy => o _ _ (by omega) (h.l x y hx hy), fun x y hx hy => ?_, World.cell?_setCell_same' _ _ _ (by rw [h.rd]; rfl), fun i => Fs _ (h.fz i)⟩
  obtain ⟨h0, h1, h2⟩ := h.f x y hx hy
  exact ⟨o _ _ (by omega) h0, o _ _ (by omega) h1, o _ _ (by omega) h2⟩

set_option maxRecDepth 100000 in
set_option maxHeartbeats 4000000 in
theorem opened_upd {u0 u1 u2 u3 u4 u6 u7 u8 u9 u10 u11 u12 u17 u18 u19 u20 u21 u22 u23 u24 u25 u26 u27 u28 u29 u30 u31 u32 u33 u34 u35 u36 u37 u38 u39 u40 u41 u42 u43 u44 u45 u46 u47 u48 u49 u50 u51 u52 u53 u54 u55 u56 u57 u58 u59 u60 u61 u62 u63 u64 u65 u66 u67 u68 u69 u70 u71 u72 u73 u74 u75 u76 u77 u78 u79 u80 u81 u82 u83 u84 u85 u86 u87 u88 u89 u90 u91 u92 u93 u94 u95 u96 u97 u98 u99 u100 u101 u102 u103 u104 u105 u106 u107 u108 u109 u110 u111 u112 u113 u114 u115 u116 u117 u118 u119 u120 u121 u122 u123 u124 u125 u126 u127 u128 u129 u130 u131 u132 u133 u134 u135 u136 u137 u138 u139 u140 u141 u142 u143 u144 u145 u146 u147 u148 u149 u150 u151 u152 u153 u154 u155 u156 u157 u158 u159 u160 u161 u162 u163 u164 u165 : Value} {Q : Exit → Act → World → Prop} {ds : List Deferred} (w : World) (db a b k : Nat) (y z : Int) (X G : Fc) (hb7' : b < 7) (ha7' : a < 7) (hk7' : k < 7) (hkb : k ≠ b)
    (p0 : w.cell? ⟨db + 1, 0, none⟩ = some (.pointer (some ⟨db, 0, none⟩)))
    (l3 : w.cell? ⟨db, 3 + a * 7 + b, none⟩ = some (.int .i64 z)) (x3 : ∀ i, w.frozen? ⟨db, i, none⟩ = false)
    (f0 : w.cell? ⟨db, 52 + a * 21 + k * 3, none⟩ = some (.bool X.w)) (f1 : w.cell? ⟨db, 52 + a * 21 + k * 3 + 1, none⟩ = some (.int .i64 X.i)) (f2 : w.cell? ⟨db, 52 + a * 21 + k * 3 + 2, none⟩ = some (.bool X.m))
    (g0 : w.cell? ⟨db, 52 + a * 21 + b * 3, none⟩ = some (.bool G.w)) (g1 : w.cell? ⟨db, 52 + a * 21 + b * 3 + 1, none⟩ = some (.int .i64 G.i)) (g2 : w.cell? ⟨db, 52 + a * 21 + b * 3 + 2, none⟩ = some (.bool G.m))
    (hK : ∀ {x139 x140 x141 x142 x143 x144 x145 x146 x147 x148 x149 x150 x151 x152 x153 x154 x155 x156 x157 x158 x159 x160 x161 : Value}, Q .normal ⟨(List.toArray (u0 :: u1 :: u2 :: u3 :: u4 :: (.pointer (some ⟨db + 1, 0, none⟩)) :: u6 :: u7 :: u8 :: u9 :: u10 :: u11 :: u12 :: (.int .i64 (k : Int)) :: (.int .i64 (a : Int)) :: (.int .i64 (b : Int)) :: (.int .i64 y) :: u17 :: u18 :: u19 :: u20 :: u21 :: u22 :: u23 :: u24 :: u25 :: u26 :: u27 :: u28 :: u29 :: u30 :: u31 :: u32 :: u33 :: u34 :: u35 :: u36 :: u37 :: u38 :: u39 :: u40 :: u41 :: u42 :: u43 :: u44 :: u45 :: u46 :: u47 :: u48 :: u49 :: u50 :: u51 :: u52 :: u53 :: u54 :: u55 :: u56 :: u57 :: u58 :: u59 :: u60 :: u61 :: u62 :: u63 :: u64 :: u65 :: u66 :: u67 :: u68 :: u69 :: u70 :: u71 :: u72 :: u73 :: u74 :: u75 :: u76 :: u77 :: u78 :: u79 :: u80 :: u81 :: u82 :: u83 :: u84 :: u85 :: u86 :: u87 :: u88 :: u89 :: u90 :: u91 :: u92 :: u93 :: u94 :: u95 :: u96 :: u97 :: u98 :: u99 :: u100 :: u101 :: u102 :: u103 :: u104 :: u105 :: u106 :: u107 :: u108 :: u109 :: u110 :: u111 :: u112 :: u113 :: u114 :: u115 :: u116 :: u117 :: u118 :: u119 :: u120 :: u121 :: u122 :: u123 :: u124 :: u125 :: u126 :: u127 :: u128 :: u129 :: u130 :: u131 :: u132 :: u133 :: u134 :: u135 :: u136 :: u137 :: u138 :: x139 :: x140 :: x141 :: x142 :: x143 :: x144 :: x145 :: x146 :: x147 :: x148 :: x149 :: x150 :: x151 :: x152 :: x153 :: x154 :: x155 :: x156 :: x157 :: x158 :: x159 :: x160 :: x161 :: u162 :: u163 :: u164 :: u165 :: [])), ds⟩ ((((w.drew.setCell ⟨db, 3 + a * 7 + b, none⟩ (.int .i64 y)).setCell ⟨db, 52 + a * 21 + b * 3, none⟩ (.bool X.w)).setCell ⟨db, 52 + a * 21 + b * 3 + 1, none⟩ (.int .i64 X.i)).setCell ⟨db, 52 + a * 21 + b * 3 + 2, none⟩ (.bool X.m))) :
    Code.wp Tryz.prog (rgIn Tryz.f80 34) Q ⟨(List.toArray (u0 :: u1 :: u2 :: u3 :: u4 :: (.pointer (some ⟨db + 1, 0, none⟩)) :: u6 :: u7 :: u8 :: u9 :: u10 :: u11 :: u12 :: (.int .i64 (k : Int)) :: (.int .i64 (a : Int)) :: (.int .i64 (b : Int)) :: (.int .i64 y) :: u17 :: u18 :: u19 :: u20 :: u21 :: u22 :: u23 :: u24 :: u25 :: u26 :: u27 :: u28 :: u29 :: u30 :: u31 :: u32 :: u33 :: u34 :: u35 :: u36 :: u37 :: u38 :: u39 :: u40 :: u41 :: u42 :: u43 :: u44 :: u45 :: u46 :: u47 :: u48 :: u49 :: u50 :: u51 :: u52 :: u53 :: u54 :: u55 :: u56 :: u57 :: u58 :: u59 :: u60 :: u61 :: u62 :: u63 :: u64 :: u65 :: u66 :: u67 :: u68 :: u69 :: u70 :: u71 :: u72 :: u73 :: u74 :: u75 :: u76 :: u77 :: u78 :: u79 :: u80 :: u81 :: u82 :: u83 :: u84 :: u85 :: u86 :: u87 :: u88 :: u89 :: u90 :: u91 :: u92 :: u93 :: u94 :: u95 :: u96 :: u97 :: u98 :: u99 :: u100 :: u101 :: u102 :: u103 :: u104 :: u105 :: u106 :: u107 :: u108 :: u109 :: u110 :: u111 :: u112 :: u113 :: u114 :: u115 :: u116 :: u117 :: u118 :: u119 :: u120 :: u121 :: u122 :: u123 :: u124 :: u125 :: u126 :: u127 :: u128 :: u129 :: u130 :: u131 :: u132 :: u133 :: u134 :: u135 :: u136 :: u137 :: u138 :: u139 :: u140 :: u141 :: u142 :: u143 :: u144 :: u145 :: u146 :: u147 :: u148 :: u149 :: u150 :: u151 :: u152 :: u153 :: u154 :: u155 :: u156 :: u157 :: u158 :: u159 :: u160 :: u161 :: u162 :: u163 :: u164 :: u165 :: [])), ds⟩ w := by
  (conv => arg 2; whnf)
  have ha0 : (0 : Int) ≤ (a : Int) := by omega
  have ha7 : (a : Int) < 7 := by omega
  have hb0 : (0 : Int) ≤ (b : Int) := by omega
  have hb7 : (b : Int) < 7 := by omega
  have hk0 : (0 : Int) ≤ (k : Int) := by omega
  have hk7 : (k : Int) < 7 := by omega
  have e3 := x3 (3 + a * 7 + b)
  have e0 := x3 (52 + a * 21 + b * 3)
  have e1 := x3 (52 + a * 21 + b * 3 + 1)
  have e2 := x3 (52 + a * 21 + b * 3 + 2)
  clear x3
  refine wp_region_noPanic ?_
  refine wp_region_held_drew (S := fun w' => w'.cell? ⟨db + 1, 0, none⟩ = some (.pointer (some ⟨db, 0, none⟩)) ∧ w'.cell? ⟨db, 52 + a * 21 + k * 3, none⟩ = some (.bool X.w) ∧ w'.cell? ⟨db, 52 + a * 21 + k * 3 + 1, none⟩ = some (.int .i64 X.i) ∧ w'.cell? ⟨db, 52 + a * 21 + k * 3 + 2, none⟩ = some (.bool X.m)) (by kernel_rfl) ⟨p0, f0, f1, f2⟩ (fun hHeld => ?_)
  refine wpAnyH_take (i := 0) (oi := ⟨some 139, _, _, _, _, _⟩) (v := .pointer (some ⟨db, 0, none⟩)) rfl (by kernel_rfl) (by kernel_rfl) (by kernel_rfl) (fun _ _ _ h => h) (Or.inl ⟨by kernel_rfl, (by intro w hSw; (try dsimp only at hSw); go_split_ands; go_simp)⟩) hHeld ?_; (try simp only [Act.put, List.setIfInBounds_toArray, List.set_cons_zero, List.set_cons_succ])
  refine wpAnyH_take (i := 1) (oi := ⟨some 140, _, _, _, _, _⟩) (v := .int .i64 (a : Int)) rfl (by kernel_rfl) (by kernel_rfl) (by kernel_rfl) (fun _ _ _ h => h) (Or.inl ⟨by kernel_rfl, (by intro w hSw; (try dsimp only at hSw); go_split_ands; go_simp)⟩) hHeld ?_; (try simp only [Act.put, List.setIfInBounds_toArray, List.set_cons_zero, List.set_cons_succ])
  refine wpAnyH_take (i := 2) (oi := ⟨some 141, _, _, _, _, _⟩) (v := .int .i64 (b : Int)) rfl (by kernel_rfl) (by kernel_rfl) (by kernel_rfl) (fun _ _ _ h => h) (Or.inl ⟨by kernel_rfl, (by intro w hSw; (try dsimp only at hSw); go_split_ands; go_simp)⟩) hHeld ?_; (try simp only [Act.put, List.setIfInBounds_toArray, List.set_cons_zero, List.set_cons_succ])
  refine wpAnyH_take (i := 3) (oi := ⟨some 142, _, _, _, _, _⟩) (v := .pointer (some ⟨db, 0, none⟩)) rfl (by kernel_rfl) (by kernel_rfl) (by kernel_rfl) (fun _ _ _ h => h) (Or.inl ⟨by kernel_rfl, (by intro w hSw; (try dsimp only at hSw); go_split_ands; go_simp)⟩) hHeld ?_; (try simp only [Act.put, List.setIfInBounds_toArray, List.set_cons_zero, List.set_cons_succ])
  refine wpAnyH_take (i := 4) (oi := ⟨some 143, _, _, _, _, _⟩) (v := .int .i64 (a : Int)) rfl (by kernel_rfl) (by kernel_rfl) (by kernel_rfl) (fun _ _ _ h => h) (Or.inl ⟨by kernel_rfl, (by intro w hSw; (try dsimp only at hSw); go_split_ands; go_simp)⟩) hHeld ?_; (try simp only [Act.put, List.setIfInBounds_toArray, List.set_cons_zero, List.set_cons_succ])
  refine wpAnyH_take (i := 5) (oi := ⟨some 144, _, _, _, _, _⟩) (v := .int .i64 (b : Int)) rfl (by kernel_rfl) (by kernel_rfl) (by kernel_rfl) (fun _ _ _ h => h) (Or.inl ⟨by kernel_rfl, (by intro w hSw; (try dsimp only at hSw); go_split_ands; go_simp)⟩) hHeld ?_; (try simp only [Act.put, List.setIfInBounds_toArray, List.set_cons_zero, List.set_cons_succ])
  refine wpAnyH_take (i := 6) (oi := ⟨some 145, _, _, _, _, _⟩) (v := .int .i64 y) rfl (by kernel_rfl) (by kernel_rfl) (by kernel_rfl) (fun _ _ _ h => h) (Or.inl ⟨by kernel_rfl, (by intro w hSw; (try dsimp only at hSw); go_split_ands; go_simp)⟩) hHeld ?_; (try simp only [Act.put, List.setIfInBounds_toArray, List.set_cons_zero, List.set_cons_succ])
  refine wpAnyH_take (i := 7) (oi := ⟨some 146, _, _, _, _, _⟩) (v := .pointer (some ⟨db, 0, none⟩)) rfl (by kernel_rfl) (by kernel_rfl) (by kernel_rfl) (fun _ _ _ h => h) (Or.inl ⟨by kernel_rfl, (by intro w hSw; (try dsimp only at hSw); go_split_ands; go_simp)⟩) hHeld ?_; (try simp only [Act.put, List.setIfInBounds_toArray, List.set_cons_zero, List.set_cons_succ])
  refine wpAnyH_take (i := 8) (oi := ⟨some 147, _, _, _, _, _⟩) (v := .int .i64 (a : Int)) rfl (by kernel_rfl) (by kernel_rfl) (by kernel_rfl) (fun _ _ _ h => h) (Or.inl ⟨by kernel_rfl, (by intro w hSw; (try dsimp only at hSw); go_split_ands; go_simp)⟩) hHeld ?_; (try simp only [Act.put, List.setIfInBounds_toArray, List.set_cons_zero, List.set_cons_succ])
  refine wpAnyH_take (i := 9) (oi := ⟨some 148, _, _, _, _, _⟩) (v := .int .i64 (k : Int)) rfl (by kernel_rfl) (by kernel_rfl) (by kernel_rfl) (fun _ _ _ h => h) (Or.inl ⟨by kernel_rfl, (by intro w hSw; (try dsimp only at hSw); go_split_ands; go_simp)⟩) hHeld ?_; (try simp only [Act.put, List.setIfInBounds_toArray, List.set_cons_zero, List.set_cons_succ])
  refine wpAnyH_take (i := 10) (oi := ⟨some 149, _, _, _, _, _⟩) (v := .pointer (some ⟨db, 0, none⟩)) rfl (by kernel_rfl) (by kernel_rfl) (by kernel_rfl) (fun _ _ _ h => h) (Or.inl ⟨by kernel_rfl, (by intro w hSw; (try dsimp only at hSw); go_split_ands; go_simp)⟩) hHeld ?_; (try simp only [Act.put, List.setIfInBounds_toArray, List.set_cons_zero, List.set_cons_succ])
  refine wpAnyH_take (i := 11) (oi := ⟨some 150, _, _, _, _, _⟩) (v := .pointer (some ⟨db, 52, none⟩)) rfl (by kernel_rfl) (by kernel_rfl) (by kernel_rfl) (fun _ _ _ h => h) (Or.inl ⟨by kernel_rfl, (by intro w hSw; (try dsimp only at hSw); go_split_ands; go_simp)⟩) hHeld ?_; (try simp only [Act.put, List.setIfInBounds_toArray, List.set_cons_zero, List.set_cons_succ])
  refine wpAnyH_take (i := 12) (oi := ⟨some 151, _, _, _, _, _⟩) (v := .pointer (some ⟨db, 52 + a * 21, none⟩)) rfl (by kernel_rfl) (by kernel_rfl) (by kernel_rfl) (fun _ _ _ h => h) (Or.inl ⟨by kernel_rfl, (by intro w hSw; (try dsimp only at hSw); go_split_ands; go_simp)⟩) hHeld ?_; (try simp only [Act.put, List.setIfInBounds_toArray, List.set_cons_zero, List.set_cons_succ])
  refine wpAnyH_take (i := 13) (oi := ⟨some 152, _, _, _, _, _⟩) (v := .pointer (some ⟨db, 52 + a * 21 + k * 3, none⟩)) rfl (by kernel_rfl) (by kernel_rfl) (by kernel_rfl) (fun _ _ _ h => h) (Or.inl ⟨by kernel_rfl, (by intro w hSw; (try dsimp only at hSw); go_split_ands; go_simp)⟩) hHeld ?_; (try simp only [Act.put, List.setIfInBounds_toArray, List.set_cons_zero, List.set_cons_succ])
  refine wpAnyH_take (i := 14) (oi := ⟨some 153, _, _, _, _, _⟩) (v := fcV X) rfl (by kernel_rfl) (by kernel_rfl) (by kernel_rfl) (fun _ _ _ h => h) (Or.inl ⟨by kernel_rfl, (by intro w hSw; (try dsimp only at hSw); go_split_ands; go_simp)⟩) hHeld ?_; (try simp only [Act.put, List.setIfInBounds_toArray, List.set_cons_zero, List.set_cons_succ])
  refine wpAnyH_take (i := 15) (oi := ⟨some 154, _, _, _, _, _⟩) (v := .pointer (some ⟨db, 0, none⟩)) rfl (by kernel_rfl) (by kernel_rfl) (by kernel_rfl) (fun _ _ _ h => h) (Or.inl ⟨by kernel_rfl, (by intro w hSw; (try dsimp only at hSw); go_split_ands; go_simp)⟩) hHeld ?_; (try simp only [Act.put, List.setIfInBounds_toArray, List.set_cons_zero, List.set_cons_succ])
  refine wpAnyH_take (i := 16) (oi := ⟨some 155, _, _, _, _, _⟩) (v := .pointer (some ⟨db, 3, none⟩)) rfl (by kernel_rfl) (by kernel_rfl) (by kernel_rfl) (fun _ _ _ h => h) (Or.inl ⟨by kernel_rfl, (by intro w hSw; (try dsimp only at hSw); go_split_ands; go_simp)⟩) hHeld ?_; (try simp only [Act.put, List.setIfInBounds_toArray, List.set_cons_zero, List.set_cons_succ])
  refine wpAnyH_take (i := 17) (oi := ⟨some 156, _, _, _, _, _⟩) (v := .pointer (some ⟨db, 3 + a * 7, none⟩)) rfl (by kernel_rfl) (by kernel_rfl) (by kernel_rfl) (fun _ _ _ h => h) (Or.inl ⟨by kernel_rfl, (by intro w hSw; (try dsimp only at hSw); go_split_ands; go_simp)⟩) hHeld ?_; (try simp only [Act.put, List.setIfInBounds_toArray, List.set_cons_zero, List.set_cons_succ])
  refine wpAnyH_take (i := 18) (oi := ⟨some 157, _, _, _, _, _⟩) (v := .pointer (some ⟨db, 3 + a * 7 + b, none⟩)) rfl (by kernel_rfl) (by kernel_rfl) (by kernel_rfl) (fun _ _ _ h => h) (Or.inl ⟨by kernel_rfl, (by intro w hSw; (try dsimp only at hSw); go_split_ands; go_simp)⟩) hHeld ?_; (try simp only [Act.put, List.setIfInBounds_toArray, List.set_cons_zero, List.set_cons_succ])
  refine wpAnyH_take (i := 20) (oi := ⟨some 158, _, _, _, _, _⟩) (v := .pointer (some ⟨db, 0, none⟩)) rfl (by kernel_rfl) (by kernel_rfl) (by kernel_rfl) (fun _ _ _ h => h) (Or.inl ⟨by kernel_rfl, (by intro w hSw; (try dsimp only at hSw); go_split_ands; go_simp)⟩) hHeld ?_; (try simp only [Act.put, List.setIfInBounds_toArray, List.set_cons_zero, List.set_cons_succ])
  refine wpAnyH_take (i := 21) (oi := ⟨some 159, _, _, _, _, _⟩) (v := .pointer (some ⟨db, 52, none⟩)) rfl (by kernel_rfl) (by kernel_rfl) (by kernel_rfl) (fun _ _ _ h => h) (Or.inl ⟨by kernel_rfl, (by intro w hSw; (try dsimp only at hSw); go_split_ands; go_simp)⟩) hHeld ?_; (try simp only [Act.put, List.setIfInBounds_toArray, List.set_cons_zero, List.set_cons_succ])
  refine wpAnyH_take (i := 22) (oi := ⟨some 160, _, _, _, _, _⟩) (v := .pointer (some ⟨db, 52 + a * 21, none⟩)) rfl (by kernel_rfl) (by kernel_rfl) (by kernel_rfl) (fun _ _ _ h => h) (Or.inl ⟨by kernel_rfl, (by intro w hSw; (try dsimp only at hSw); go_split_ands; go_simp)⟩) hHeld ?_; (try simp only [Act.put, List.setIfInBounds_toArray, List.set_cons_zero, List.set_cons_succ])
  refine wpAnyH_ready (rs := [19]) (by kernel_rfl) (by simp) ?_
  refine AllReadyH.cons (o := ⟨none, _, _, _, _, _⟩) rfl (fun K hK' => ?_) AllReadyH.nil
  rw [if_pos (by rfl)]
  go_simp
  refine hK' _ _ ?_ (fun hHeld => ?_)
  · (refine ⟨?_, ?_, ?_, ?_⟩ <;> (repeat (first | with_reducible assumption | (with_reducible refine Kd ?_) | (with_reducible refine cell_ne ?_ ?_; (· omega)) | (with_reducible refine Ks _ ?_ ?_; (· dsimp only; omega)))))
  clear hK' K
  have g0' := cell_ne (w := w.drew) (i := 52 + a * 21 + b * 3) (j := 3 + a * 7 + b) (u := .int .i64 y) (by omega) g0
  have g1' := cell_ne (w := w.drew) (i := 52 + a * 21 + b * 3 + 1) (j := 3 + a * 7 + b) (u := .int .i64 y) (by omega) g1
  have g2' := cell_ne (w := w.drew) (i := 52 + a * 21 + b * 3 + 2) (j := 3 + a * 7 + b) (u := .int .i64 y) (by omega) g2
  (try simp only [Act.put, List.setIfInBounds_toArray, List.set_cons_zero, List.set_cons_succ])
  refine wpAnyH_take (i := 23) (oi := ⟨some 161, _, _, _, _, _⟩) (v := .pointer (some ⟨db, 52 + a * 21 + b * 3, none⟩)) rfl (by kernel_rfl) (by kernel_rfl) (by kernel_rfl) (fun _ _ _ h => h) (Or.inl ⟨by kernel_rfl, (by intro w hSw; (try dsimp only at hSw); go_split_ands; go_simp)⟩) hHeld ?_; (try simp only [Act.put, List.setIfInBounds_toArray, List.set_cons_zero, List.set_cons_succ])
  refine wpAnyH_ready (rs := [24]) (by kernel_rfl) (by simp) ?_
  refine AllReadyH.cons (o := ⟨none, _, _, _, _, _⟩) rfl (fun K hK' => ?_) AllReadyH.nil
  rw [if_pos (by rfl)]
  go_simp
  refine hK' _ _ ?_ (fun hHeld => ?_)
  · (refine ⟨?_, ?_, ?_, ?_⟩ <;> (repeat (first | with_reducible assumption | (with_reducible refine Kd ?_) | (with_reducible refine cell_ne ?_ ?_; (· omega)) | (with_reducible refine Ks _ ?_ ?_; (· dsimp only; omega)))))
  clear hK' K
  refine wpAnyH_done (by kernel_rfl) ?_ _
  exact hK ..
/-- what a search that stopped leaves -/
def StopAt (W wo w' : World) (db : Nat) (r : Rw) (SM : Sk) (bA : Option Addr) (bc : Nat) (dA : Option Addr) (dc : Nat) (vA : Option Addr) (vc : Nat) (l : List Fc) : Prop :=
  ∃ A c, DkAt w' W.heap.size db r SM bA bc dA dc vA vc (.slice A l.length c) ∧ w'.ownsRow wo.heap.size 76 3 (.slice A l.length c) l.length (fcL l) ∧ Below W.heap.size W w' ∧ (∀ i, i < wo.heap.size → i ≠ db → w'.heap[i]? = wo.heap[i]?)

set_option maxRecDepth 100000 in
set_option maxHeartbeats 4000000 in
theorem opened_stop {u0 u1 u2 u3 u4 u6 u7 u8 u9 u10 u11 u12 u15 u16 u17 u18 u19 u20 u21 u22 u23 u24 u25 u26 u27 u28 u29 u30 u31 u32 u33 u34 u35 u36 u37 u38 u39 u40 u41 u42 u43 u44 u45 u46 u47 u48 u49 u50 u51 u52 u53 u54 u55 u56 u57 u58 u59 u60 u61 u62 u63 u64 u65 u66 u67 u68 u69 u70 u71 u72 u73 u74 u75 u76 u77 u78 u79 u80 u81 u82 u83 u84 u85 u86 u87 u88 u89 u90 u91 u92 u93 u94 u95 u96 u97 u98 u99 u100 u101 u102 u103 u104 u105 u106 u107 u108 u109 u110 u111 u112 u113 u114 u115 u116 u117 u118 u119 u120 u121 u122 u123 u124 u125 u126 u127 u128 u129 u130 u131 u132 u133 u134 u135 u136 u137 u138 u139 u140 u141 u142 u143 u144 u145 u146 u147 u148 u149 u150 u151 u152 u153 u154 u155 u156 u157 u158 u159 u160 u161 u162 u163 u164 u165 : Value} {Q : Exit → Act → World → Prop} {ds : List Deferred} (r : Rw) (hr : r.ok) (W wo : World) (db a k : Nat) (SM : Sk) (bA dA vA : Option Addr) (bc dc vc : Nat) (m1 m2 : List Fc) (ha : a ≤ r.n) (hk : k ≤ r.n) (hw1 : Wk r SM.F k a m1) (hw2 : Wk r SM.F a k m2) (n1 : m1.length ≤ r.n) (n2 : m2.length ≤ r.n) (hm2 : m2 ≠ [])
    (ho : OpAt W wo db (db + 1) r SM bA bc dA dc vA vc (.slice none 0 0))
    (hQ : ∀ {x127 x128 x129 x130 x131 x132 x133 x134 x135 x136 x137 x138 : Value} (w' : World), StopAt W wo w' db r SM bA bc dA dc vA vc (m1 ++ m2) → Q .normal ⟨(List.toArray (u0 :: u1 :: u2 :: u3 :: u4 :: (.pointer (some ⟨db + 1, 0, none⟩)) :: u6 :: u7 :: u8 :: u9 :: u10 :: u11 :: u12 :: (.int .i64 (k : Int)) :: (.int .i64 (a : Int)) :: u15 :: u16 :: u17 :: u18 :: u19 :: u20 :: u21 :: u22 :: u23 :: u24 :: u25 :: u26 :: u27 :: u28 :: u29 :: u30 :: u31 :: u32 :: u33 :: u34 :: u35 :: u36 :: u37 :: u38 :: u39 :: u40 :: u41 :: u42 :: u43 :: u44 :: u45 :: u46 :: u47 :: u48 :: u49 :: u50 :: u51 :: u52 :: u53 :: u54 :: u55 :: u56 :: u57 :: u58 :: u59 :: u60 :: u61 :: u62 :: u63 :: u64 :: u65 :: u66 :: u67 :: u68 :: u69 :: u70 :: u71 :: u72 :: u73 :: u74 :: u75 :: u76 :: u77 :: u78 :: u79 :: u80 :: u81 :: u82 :: u83 :: u84 :: u85 :: u86 :: u87 :: u88 :: u89 :: u90 :: u91 :: u92 :: u93 :: u94 :: u95 :: u96 :: u97 :: u98 :: u99 :: u100 :: u101 :: u102 :: u103 :: u104 :: u105 :: u106 :: u107 :: u108 :: u109 :: u110 :: u111 :: u112 :: u113 :: u114 :: u115 :: u116 :: u117 :: u118 :: u119 :: u120 :: u121 :: u122 :: u123 :: u124 :: u125 :: u126 :: x127 :: x128 :: x129 :: x130 :: x131 :: x132 :: x133 :: x134 :: x135 :: x136 :: x137 :: x138 :: u139 :: u140 :: u141 :: u142 :: u143 :: u144 :: u145 :: u146 :: u147 :: u148 :: u149 :: u150 :: u151 :: u152 :: u153 :: u154 :: u155 :: u156 :: u157 :: u158 :: u159 :: u160 :: u161 :: u162 :: u163 :: u164 :: u165 :: [])), ds⟩ w') :
    Code.wp Tryz.prog (rgIn Tryz.f80 33) Q ⟨(List.toArray (u0 :: u1 :: u2 :: u3 :: u4 :: (.pointer (some ⟨db + 1, 0, none⟩)) :: u6 :: u7 :: u8 :: u9 :: u10 :: u11 :: u12 :: (.int .i64 (k : Int)) :: (.int .i64 (a : Int)) :: u15 :: u16 :: u17 :: u18 :: u19 :: u20 :: u21 :: u22 :: u23 :: u24 :: u25 :: u26 :: u27 :: u28 :: u29 :: u30 :: u31 :: u32 :: u33 :: u34 :: u35 :: u36 :: u37 :: u38 :: u39 :: u40 :: u41 :: u42 :: u43 :: u44 :: u45 :: u46 :: u47 :: u48 :: u49 :: u50 :: u51 :: u52 :: u53 :: u54 :: u55 :: u56 :: u57 :: u58 :: u59 :: u60 :: u61 :: u62 :: u63 :: u64 :: u65 :: u66 :: u67 :: u68 :: u69 :: u70 :: u71 :: u72 :: u73 :: u74 :: u75 :: u76 :: u77 :: u78 :: u79 :: u80 :: u81 :: u82 :: u83 :: u84 :: u85 :: u86 :: u87 :: u88 :: u89 :: u90 :: u91 :: u92 :: u93 :: u94 :: u95 :: u96 :: u97 :: u98 :: u99 :: u100 :: u101 :: u102 :: u103 :: u104 :: u105 :: u106 :: u107 :: u108 :: u109 :: u110 :: u111 :: u112 :: u113 :: u114 :: u115 :: u116 :: u117 :: u118 :: u119 :: u120 :: u121 :: u122 :: u123 :: u124 :: u125 :: u126 :: u127 :: u128 :: u129 :: u130 :: u131 :: u132 :: u133 :: u134 :: u135 :: u136 :: u137 :: u138 :: u139 :: u140 :: u141 :: u142 :: u143 :: u144 :: u145 :: u146 :: u147 :: u148 :: u149 :: u150 :: u151 :: u152 :: u153 :: u154 :: u155 :: u156 :: u157 :: u158 :: u159 :: u160 :: u161 :: u162 :: u163 :: u164 :: u165 :: [])), ds⟩ wo := by
  (conv => arg 2; whnf)
  have hn6 := hr.n6
  have HC1 : Hid (∀ w', Below wo.heap.size wo w' → Calls Tryz.prog 110 #[.pointer (some ⟨db, 0, none⟩), .int .i64 a, .int .i64 k] w' fun e W' => ∃ A c, e = .returned (.slice A m1.length c) ∧ W'.ownsRow w'.heap.size 76 3 (.slice A m1.length c) m1.length (fcL m1) ∧ Below w'.heap.size w' W') := Lib.hid (fun w' hb => walk_any r hr SM.F W.heap.size db bA dA vA bc dc vc k a (by omega) (by omega) m1 (by omega) hw1 w' (ho.later hb).d.f (ho.later hb).d.a)
  have HC2 : Hid (∀ w', Below wo.heap.size wo w' → Calls Tryz.prog 110 #[.pointer (some ⟨db, 0, none⟩), .int .i64 k, .int .i64 a] w' fun e W' => ∃ A c, e = .returned (.slice A m2.length c) ∧ W'.ownsRow w'.heap.size 76 3 (.slice A m2.length c) m2.length (fcL m2) ∧ Below w'.heap.size w' W') := Lib.hid (fun w' hb => walk_any r hr SM.F W.heap.size db bA dA vA bc dc vc a k (by omega) (by omega) m2 (by omega) hw2 w' (ho.later hb).d.f (ho.later hb).d.a)
  have HO := Lib.hid ho
  have HM2 := Lib.hid hm2
  have hl2 : 0 < m2.length := List.length_pos_iff.2 hm2
  have hc5 := ho.d.rd
  have hf5 := ho.d.fz 199
  have hlt9 := ho.lt
  have hh9 := ho.h
  have p0 := ho.p
  obtain ⟨i0, hi, hz0', hz1, hz2⟩ := info_parts infoFc
  clear hr ho hw1 hw2 hm2
  refine wp_region_noPanic ?_
  refine wp_region_held_drew (S := fun w' => w'.cell? ⟨db + 1, 0, none⟩ = some (.pointer (some ⟨db, 0, none⟩))) (by kernel_rfl) p0 (fun hHeld => ?_)
  refine wpAnyH_take (i := 0) (oi := ⟨some 127, _, _, _, _, _⟩) (v := .pointer (some ⟨db, 0, none⟩)) rfl (by kernel_rfl) (by kernel_rfl) (by kernel_rfl) (fun _ _ _ h => h) (Or.inl ⟨by kernel_rfl, (by intro w hSw; (try dsimp only at hSw); go_split_ands; go_simp)⟩) hHeld ?_; (try simp only [Act.put, List.setIfInBounds_toArray, List.set_cons_zero, List.set_cons_succ])
  refine wpAnyH_take (i := 1) (oi := ⟨some 128, _, _, _, _, _⟩) (v := .pointer (some ⟨db, 0, none⟩)) rfl (by kernel_rfl) (by kernel_rfl) (by kernel_rfl) (fun _ _ _ h => h) (Or.inl ⟨by kernel_rfl, (by intro w hSw; (try dsimp only at hSw); go_split_ands; go_simp)⟩) hHeld ?_; (try simp only [Act.put, List.setIfInBounds_toArray, List.set_cons_zero, List.set_cons_succ])
  refine wpAnyH_take (i := 2) (oi := ⟨some 129, _, _, _, _, _⟩) (v := .int .i64 (a : Int)) rfl (by kernel_rfl) (by kernel_rfl) (by kernel_rfl) (fun _ _ _ h => h) (Or.inl ⟨by kernel_rfl, (by intro w hSw; (try dsimp only at hSw); go_split_ands; go_simp)⟩) hHeld ?_; (try simp only [Act.put, List.setIfInBounds_toArray, List.set_cons_zero, List.set_cons_succ])
  refine wpAnyH_take (i := 3) (oi := ⟨some 130, _, _, _, _, _⟩) (v := .int .i64 (k : Int)) rfl (by kernel_rfl) (by kernel_rfl) (by kernel_rfl) (fun _ _ _ h => h) (Or.inl ⟨by kernel_rfl, (by intro w hSw; (try dsimp only at hSw); go_split_ands; go_simp)⟩) hHeld ?_; (try simp only [Act.put, List.setIfInBounds_toArray, List.set_cons_zero, List.set_cons_succ])
  refine wpAnyH_take (i := 5) (oi := ⟨some 132, _, _, _, _, _⟩) (v := .pointer (some ⟨db, 0, none⟩)) rfl (by kernel_rfl) (by kernel_rfl) (by kernel_rfl) (fun _ _ _ h => h) (Or.inl ⟨by kernel_rfl, (by intro w hSw; (try dsimp only at hSw); go_split_ands; go_simp)⟩) hHeld ?_; (try simp only [Act.put, List.setIfInBounds_toArray, List.set_cons_zero, List.set_cons_succ])
  refine wpAnyH_take (i := 6) (oi := ⟨some 133, _, _, _, _, _⟩) (v := .int .i64 (k : Int)) rfl (by kernel_rfl) (by kernel_rfl) (by kernel_rfl) (fun _ _ _ h => h) (Or.inl ⟨by kernel_rfl, (by intro w hSw; (try dsimp only at hSw); go_split_ands; go_simp)⟩) hHeld ?_; (try simp only [Act.put, List.setIfInBounds_toArray, List.set_cons_zero, List.set_cons_succ])
  refine wpAnyH_take (i := 7) (oi := ⟨some 134, _, _, _, _, _⟩) (v := .int .i64 (a : Int)) rfl (by kernel_rfl) (by kernel_rfl) (by kernel_rfl) (fun _ _ _ h => h) (Or.inl ⟨by kernel_rfl, (by intro w hSw; (try dsimp only at hSw); go_split_ands; go_simp)⟩) hHeld ?_; (try simp only [Act.put, List.setIfInBounds_toArray, List.set_cons_zero, List.set_cons_succ])
  refine wpAnyH_ready (rs := [4]) (by kernel_rfl) (by simp) ?_
  refine AllReadyH.cons (o := ⟨some 131, _, _, _, _, _⟩) rfl (fun K hK => ?_) AllReadyH.nil
  rw [if_pos (by rfl)]
  go_simp
  go_at_call 110
  refine (HC1.out _ ?_).mono ?_
  · exact (by repeat (first | (with_reducible first | exact Below.refl _ _ | assumption | refine Below.drew ?_) | ((with_reducible first | refine Lc ?_ ?_ _ | refine Ls ?_ ?_ _ | refine Lv (by assumption) ?_ ?_); · first | exact Nat.le_refl _ | omega | (dsimp only; omega) | (simp only [World.size_alloc, World.size_drew, World.heap_drewN]; omega) | (simp; omega))))
  rintro e w1 ⟨A1, c1, rfl, hO1, hB1⟩
  have hy1 := hB1.size
  (try simp only [World.size_drew, World.heap_drewN, World.size_alloc] at hy1)
  refine hK _ _ ?_ (fun hHeld => ?_)
  · ((go_split_ands; (repeat' refine And.intro ?_ ?_) <;> (repeat (first | with_reducible assumption | (simp; done) | (with_reducible first | refine Kd ?_ | refine Kn ?_ | refine Kb (by assumption) ?_) | ((with_reducible first | refine Kw ?_ ?_ | refine Fw ?_) <;> first | with_reducible rfl | (simp; done)) | (with_reducible first | refine Ka _ ?_ | refine Ks _ (by first | exact Nat.le_refl _ | omega | (simp; done) | (simp; omega)) ?_ | refine Fd ?_ | refine Fn ?_ | refine Fb (by assumption) (by first | exact Nat.le_refl _ | omega | (simp; done) | (simp; omega)) ?_ | refine Fa _ (by first | exact Nat.le_refl _ | omega | (simp; done) | (simp; omega)) ?_ | refine Fs _ ?_)))))
  clear hK K
  (try simp only [Act.put, List.setIfInBounds_toArray, List.set_cons_zero, List.set_cons_succ])
  refine wpAnyH_ready (rs := [8]) (by kernel_rfl) (by simp) ?_
  refine AllReadyH.cons (o := ⟨some 135, _, _, _, _, _⟩) rfl (fun K hK => ?_) AllReadyH.nil
  rw [if_pos (by rfl)]
  go_simp
  go_at_call 110
  refine (HC2.out _ ?_).mono ?_
  · exact (by repeat (first | (with_reducible first | exact Below.refl _ _ | assumption | refine Below.drew ?_) | ((with_reducible first | refine Lc ?_ ?_ _ | refine Ls ?_ ?_ _ | refine Lv (by assumption) ?_ ?_); · first | exact Nat.le_refl _ | omega | (dsimp only; omega) | (simp only [World.size_alloc, World.size_drew, World.heap_drewN]; omega) | (simp; omega))))
  rintro e w2 ⟨A2, c2, rfl, hO2, hB2⟩
  have hy2 := hB2.size
  (try simp only [World.size_drew, World.heap_drewN, World.size_alloc] at hy2)
  obtain ⟨g2, rfl⟩ := own_some hO2 rfl HM2.out
  refine hK _ _ ?_ (fun hHeld => ?_)
  · ((go_split_ands; (repeat' refine And.intro ?_ ?_) <;> (repeat (first | with_reducible assumption | (simp; done) | (with_reducible first | refine Kd ?_ | refine Kn ?_ | refine Kb (by assumption) ?_) | ((with_reducible first | refine Kw ?_ ?_ | refine Fw ?_) <;> first | with_reducible rfl | (simp; done)) | (with_reducible first | refine Ka _ ?_ | refine Ks _ (by first | exact Nat.le_refl _ | omega | (simp; done) | (simp; omega)) ?_ | refine Fd ?_ | refine Fn ?_ | refine Fb (by assumption) (by first | exact Nat.le_refl _ | omega | (simp; done) | (simp; omega)) ?_ | refine Fa _ (by first | exact Nat.le_refl _ | omega | (simp; done) | (simp; omega)) ?_ | refine Fs _ ?_)))))
  clear hK K
  (try simp only [Act.put, List.setIfInBounds_toArray, List.set_cons_zero, List.set_cons_succ])
  refine wpAnyH_ready (rs := [9]) (by kernel_rfl) (by simp) ?_
  refine AllReadyH.cons (o := ⟨some 136, _, _, _, _, _⟩) rfl (fun K hK => ?_) AllReadyH.nil
  refine step_append_lies _ (by rfl) (.tmp 131) (.tmp 135) 73 (by rfl) wo.heap.size 76 i0 (.agg #[.bool false, .int .i64 0, .bool false]) 3 24 fcs_under hi hz0' hz1 hz2 (by rfl) (by decide) (.slice A1 m1.length c1) m1.length (fcL m1) (by rfl) (owns_low (by (first | omega | (simp only [World.size_alloc, World.size_drew]; omega) | (simp; done) | (simp; omega))) (owns_later hO1 (show Below w1.heap.size w1 _ from (by repeat (first | (with_reducible first | exact Below.refl _ _ | assumption | refine Below.drew ?_) | ((with_reducible first | refine Lc ?_ ?_ _ | refine Ls ?_ ?_ _ | refine Lv (by assumption) ?_ ?_); · first | exact Nat.le_refl _ | omega | (dsimp only; omega) | (simp only [World.size_alloc, World.size_drew, World.heap_drewN]; omega) | (simp; omega))))))) ⟨g2, 0, none⟩ m2.length c2 (fcL m2) (by rfl) (fcL_len m2) (fun jj uu hjj => (owns_later hO2 (show Below w2.heap.size w2 _ from (by repeat (first | (with_reducible first | exact Below.refl _ _ | assumption | refine Below.drew ?_) | ((with_reducible first | refine Lc ?_ ?_ _ | refine Ls ?_ ?_ _ | refine Lv (by assumption) ?_ ?_); · first | exact Nat.le_refl _ | omega | (dsimp only; omega) | (simp only [World.size_alloc, World.size_drew, World.heap_drewN]; omega) | (simp; omega)))))).cells (g := g2) rfl jj uu hjj) (fcL_one m2) hl2 (by unfold maxLen; omega) (by omega) (by (first | omega | (simp only [World.size_alloc, World.size_drew]; omega) | (simp; done) | (simp; omega))) _ rfl ?_
  intro gg cap w6 hown6 hgr6 hat6 hlt6
  have hv1 : ∀ q, (Value.slice A1 m1.length c1).ownBlock = some q → wo.heap.size ≤ q := fun q hq => Nat.le_trans (by (first | omega | (simp only [World.size_alloc, World.size_drew]; omega) | (simp; done) | (simp; omega))) (hO1.lt q hq).1
  have HB6 := Lib.hid (Below.grown (show Below wo.heap.size wo _ from (by repeat (first | (with_reducible first | exact Below.refl _ _ | assumption | refine Below.drew ?_) | ((with_reducible first | refine Lc ?_ ?_ _ | refine Ls ?_ ?_ _ | refine Lv (by assumption) ?_ ?_); · first | exact Nat.le_refl _ | omega | (dsimp only; omega) | (simp only [World.size_alloc, World.size_drew, World.heap_drewN]; omega) | (simp; omega))))) hgr6 (by (first | omega | (simp only [World.size_alloc, World.size_drew]; omega) | (simp; done) | (simp; omega))) hv1)
  have a6 := cell_same (HB6.out.block db (by omega)) hc5
  have b6 := fro_same (HB6.out.block db (by omega)) hf5
  have q6 := cell_same (HB6.out.block (db + 1) hlt9) p0
  refine hK _ _ ?_ (fun hHeld => ?_)
  · exact q6
  clear hK K
  (try simp only [Act.put, List.setIfInBounds_toArray, List.set_cons_zero, List.set_cons_succ])
  refine wpAnyH_take (i := 10) (oi := ⟨some 137, _, _, _, _, _⟩) (v := .pointer (some ⟨db, 0, none⟩)) rfl (by kernel_rfl) (by kernel_rfl) (by kernel_rfl) (fun _ _ _ h => h) (Or.inl ⟨by kernel_rfl, (by intro w hSw; (try dsimp only at hSw); go_split_ands; go_simp)⟩) hHeld ?_; (try simp only [Act.put, List.setIfInBounds_toArray, List.set_cons_zero, List.set_cons_succ])
  refine wpAnyH_take (i := 11) (oi := ⟨some 138, _, _, _, _, _⟩) (v := .pointer (some ⟨db, 199, none⟩)) rfl (by kernel_rfl) (by kernel_rfl) (by kernel_rfl) (fun _ _ _ h => h) (Or.inl ⟨by kernel_rfl, (by intro w hSw; (try dsimp only at hSw); go_split_ands; go_simp)⟩) hHeld ?_; (try simp only [Act.put, List.setIfInBounds_toArray, List.set_cons_zero, List.set_cons_succ])
  refine wpAnyH_ready (rs := [12]) (by kernel_rfl) (by simp) ?_
  refine AllReadyH.cons (o := ⟨none, _, _, _, _, _⟩) rfl (fun K hK => ?_) AllReadyH.nil
  rw [if_pos (by rfl)]
  go_simp
  refine hK _ _ ?_ (fun hHeld => ?_)
  · exact Ks _ (by dsimp only; omega) q6
  clear hK K
  refine wpAnyH_done (by kernel_rfl) ?_ _
  all_goals
    refine hQ _ ⟨some ⟨gg, 0, none⟩, cap, ?_⟩
    rw [List.length_append, fcL_app]
    exact ⟨(HO.out.later HB6.out).d.setR hh9.1 hn6 _, owns_sm hown6 (fun g h1 h2 => set_heap _ (by dsimp only; omega)), (HO.out.later HB6.out).b.setCell hh9.1 _, fun i h1 h2 => (set_heap _ (by dsimp only; omega)).trans (HB6.out.block i h1)⟩
end Go.Proofs.YtnnikeolgknfoaaGreat
