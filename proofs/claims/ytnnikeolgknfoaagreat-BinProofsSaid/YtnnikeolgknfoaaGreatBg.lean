/- desk.walk. -/
import Derived.Test.YtnnikeolgknfoaaGreatBc
import Derived.Test.YtnnikeolgknfoaaGreatBr
set_option linter.unusedSimpArgs false
set_option linter.unusedVariables false
namespace Go.Proofs.YtnnikeolgknfoaaGreat
open Go.RowKit Go.Shelf

/-- cells of a list of facts -/
def fcL (l : List Fc) : List Value := l.flatMap fcC
theorem fcL_snoc (l : List Fc) (x : Fc) : fcL (l ++ [x]) = fcL l ++ [.bool x.w, .int .i64 x.i, .bool x.m] := by simp [fcL, fcC]
theorem fcL_len : ∀ l : List Fc, (fcL l).length = l.length * 3
  | [] => rfl
  | f :: l => by
    have := fcL_len l
    unfold fcL at this ⊢
    rw [List.flatMap_cons, List.length_append, this, fcC_len, List.length_cons]
    omega
theorem fcL_get : ∀ (l : List Fc) (k j : Nat), k < l.length → j < 3 → (fcL l)[k * 3 + j]? = (fcC (l.getD k fc0))[j]?
  | [], k, j, hk, _ => absurd hk (by simp)
  | f :: l, 0, j, _, hj => by
    unfold fcL
    rw [List.flatMap_cons, Nat.zero_mul, Nat.zero_add, List.getElem?_append_left (by rw [fcC_len]; exact hj)]
    rfl
  | f :: l, k + 1, j, hk, hj => by
    have := fcL_get l k j (by simpa using hk) hj
    unfold fcL at this ⊢
    rw [List.flatMap_cons, List.getElem?_append_right (by rw [fcC_len]; omega), fcC_len, show (k + 1) * 3 + j - 3 = k * 3 + j by omega, this]
    rfl
theorem fcL_one (l : List Fc) : ∀ v ∈ fcL l, v.oneCell' = true := fun v hv => by
  unfold fcL at hv
  rw [List.mem_flatMap] at hv
  obtain ⟨x, _, hx⟩ := hv
  exact fcC_one x v hx
theorem ownFc_of {w : World} {base n : Nat} {v : Value} {l : List Fc} (h : w.ownsRow base 76 3 v n (fcL l)) (hn : n = l.length) : ∃ A c, v = .slice A n c ∧ OwnFc w base A n (fun k => l.getD k fc0) ∧ n ≤ c := by
  subst hn
  rcases h.2 with ⟨rfl, h0⟩ | ⟨g, cap, cur, rfl, hb, hg, hc, _⟩
  · exact ⟨none, 0, by rw [h0], fun k hk => by omega, by omega⟩
  · refine ⟨some ⟨g, 0, none⟩, cap, rfl, fun k hk => ?_, hc⟩
    have key : ∀ j v, j < 3 → (fcC (l.getD k fc0))[j]? = some v → w.cell? ⟨g, k * 3 + j, none⟩ = some v := fun j v hj hv => by
      have h1 := h.cells (g := g) rfl (k * 3 + j) v (by rw [fcL_get l k j hk hj]; exact hv)
      rw [add_at] at h1
      exact h1
    exact ⟨g, rfl, hb, key 0 _ (by omega) rfl, key 1 _ (by omega) rfl, key 2 _ (by omega) rfl, fun i => frozen_of_row _ _ _ _ _ hg⟩
/-- a walk by first facts, step by step -/
def Wk (r : Rw) (F : Nat → Nat → Fc) (t : Nat) : Nat → List Fc → Prop
  | x, [] => x = t
  | x, f :: l => x ≠ t ∧ x ≤ r.n ∧ f = F x t ∧ r.has f ∧ Wk r F t (r.b f) l
theorem Wk.of {r : Rw} (hr : r.ok) {F : Nat → Nat → Fc} {t : Nat} : ∀ (u x : Nat), x ≤ r.n → Chain r x t (wlk r F t u x) → Wk r F t x (wlk r F t u x)
  | 0, x, _, h => h
  | u + 1, x, hx, h => by
    by_cases e : x = t
    · have : wlk r F t (u + 1) x = [] := if_pos e
      rw [this]
      exact e
    · have hw : wlk r F t (u + 1) x = F x t :: wlk r F t u (r.b (F x t)) := if_neg e
      rw [hw] at h ⊢
      obtain ⟨h1, h2, h3⟩ := h
      obtain ⟨_, h4, _⟩ := Rw.ab_bd hr h1
      exact ⟨e, hx, rfl, h1, Wk.of hr u _ h4 h3⟩
/-- a desk's first facts in memory -/
def FsAt (w : World) (db : Nat) (F : Nat → Nat → Fc) : Prop := ∀ x y, x < 7 → y < 7 → w.cell? ⟨db, 52 + x * 21 + y * 3, none⟩ = some (.bool (F x y).w) ∧ w.cell? ⟨db, 52 + x * 21 + y * 3 + 1, none⟩ = some (.int .i64 (F x y).i) ∧ w.cell? ⟨db, 52 + x * 21 + y * 3 + 2, none⟩ = some (.bool (F x y).m)
theorem FsAt.same {w w' : World} {db : Nat} {F : Nat → Nat → Fc} (h : FsAt w db F) (hs : w'.heap[db]? = w.heap[db]?) : FsAt w' db F := fun x y hx hy => ⟨cell_same hs (h x y hx hy).1, cell_same hs (h x y hx hy).2.1, cell_same hs (h x y hx hy).2.2⟩
/-- all below a block but one lies as it lay -/
structure Kp (base ob : Nat) (W W' : World) : Prop where
  os : W'.os = W.os
  tape : W'.tape = W.tape
  output : W'.output = W.output
  size : W.heap.size ≤ W'.heap.size
  block : ∀ i, i < base → i ≠ ob → W'.heap[i]? = W.heap[i]?
theorem Kp.trans {base ob : Nat} {A C D : World} (h : Kp base ob A C) (k : Kp base ob C D) : Kp base ob A D := ⟨k.os.trans h.os, k.tape.trans h.tape, k.output.trans h.output, Nat.le_trans h.size k.size, fun i hi hn => (k.block i hi hn).trans (h.block i hi hn)⟩
theorem Kp.below {base ob : Nat} {A C : World} (h : Below A.heap.size A C) (hb : base ≤ A.heap.size) : Kp base ob A C := ⟨h.os, h.tape, h.output, h.size, fun i hi _ => h.block i (by omega)⟩
theorem Kp.refl (base ob : Nat) (A : World) : Kp base ob A A := ⟨rfl, rfl, rfl, Nat.le_refl _, fun _ _ _ => rfl⟩
/-- a walk at work -/
structure WkAt (w : World) (r : Rw) (F : Nat → Nat → Fc) (B db tb xb ob ab base : Nat) (bA : Option Addr) (bc : Nat) (dA : Option Addr) (dc : Nat) (vA : Option Addr) (vc : Nat) (t : Nat) (v : Value) (l : List Fc) : Prop where
  f : FsAt w db F
  a : DrAt w B db r bA bc dA dc vA vc
  t : w.cell? ⟨tb, 0, none⟩ = some (.int .i64 t)
  x : w.cell? ⟨xb, 0, none⟩ = some (.pointer (some ⟨db, 0, none⟩))
  o : w.cell? ⟨ob, 0, none⟩ = some v ∧ w.frozen? ⟨ob, 0, none⟩ = false
  s : w.cell? ⟨ab, 0, none⟩ = some (.func (.func 140) #[] #[.pointer (some ⟨tb, 0, none⟩), .pointer (some ⟨xb, 0, none⟩), .pointer (some ⟨ob, 0, none⟩), .pointer (some ⟨ab, 0, none⟩)])
  own : w.ownsRow base 76 3 v l.length (fcL l)
  h : (db < base ∧ tb < base ∧ xb < base ∧ ob < base ∧ ab < base) ∧ (ob ≠ db ∧ ob ≠ tb ∧ ob ≠ xb ∧ ob ≠ ab) ∧ B ≤ ob ∧ base ≤ w.heap.size
theorem WkAt.keep {w w' : World} {r : Rw} {F : Nat → Nat → Fc} {B db tb xb ob ab base : Nat} {bA : Option Addr} {bc : Nat} {dA : Option Addr} {dc : Nat} {vA : Option Addr} {vc : Nat} {t : Nat} {v v' : Value} {l l' : List Fc} (h : WkAt w r F B db tb xb ob ab base bA bc dA dc vA vc t v l) (hk : Kp base ob w w') (ho : w'.cell? ⟨ob, 0, none⟩ = some v' ∧ w'.frozen? ⟨ob, 0, none⟩ = false) (hown : w'.ownsRow base 76 3 v' l'.length (fcL l')) : WkAt w' r F B db tb xb ob ab base bA bc dA dc vA vc t v' l' := by
  obtain ⟨⟨h1, h2, h3, h4, h5⟩, ⟨n1, n2, n3, n4⟩, hB, hs⟩ := h.h
  have hz := hk.size
  exact ⟨h.f.same (hk.block _ h1 (Ne.symm n1)), ⟨h.a.a.same (hk.block _ h1 (Ne.symm n1)), h.a.r.later ⟨hk.os, hk.tape, hk.output, hk.size, fun i hi => hk.block i (by omega) (by omega)⟩⟩, cell_same (hk.block _ h2 (Ne.symm n2)) h.t, cell_same (hk.block _ h3 (Ne.symm n3)) h.x, ho, cell_same (hk.block _ h5 (Ne.symm n4)) h.s, hown, ⟨h1, h2, h3, h4, h5⟩, ⟨n1, n2, n3, n4⟩, hB, by omega⟩
theorem WkAt.later {w w' : World} {r : Rw} {F : Nat → Nat → Fc} {B db tb xb ob ab base : Nat} {bA : Option Addr} {bc : Nat} {dA : Option Addr} {dc : Nat} {vA : Option Addr} {vc : Nat} {t : Nat} {v : Value} {l : List Fc} (h : WkAt w r F B db tb xb ob ab base bA bc dA dc vA vc t v l) (hb : Below w.heap.size w w') : WkAt w' r F B db tb xb ob ab base bA bc dA dc vA vc t v l :=
  h.keep (Kp.below hb h.h.2.2.2) ⟨Kb hb h.o.1, fro_below_cell hb h.o.1 h.o.2⟩ (owns_later h.own hb)

def WalkPost (r : Rw) (F : Nat → Nat → Fc) (B db tb xb ob ab base : Nat) (bA dA vA : Option Addr) (bc dc vc t : Nat) (l : List Fc) : Prop :=
  ∀ (x : Nat) (l0 : List Fc) (v : Value) (W : World), x ≤ r.n → Wk r F t x l → l0.length + l.length ≤ 1000 → WkAt W r F B db tb xb ob ab base bA bc dA dc vA vc t v l0 →
    Calls Tryz.prog 140 #[.int .i64 x, .pointer (some ⟨tb, 0, none⟩), .pointer (some ⟨xb, 0, none⟩), .pointer (some ⟨ob, 0, none⟩), .pointer (some ⟨ab, 0, none⟩)] W fun e W' => (∃ u, e = .returned u) ∧ Kp base ob W W' ∧ ∃ v', WkAt W' r F B db tb xb ob ab base bA bc dA dc vA vc t v' (l0 ++ l)

set_option maxRecDepth 100000 in
set_option maxHeartbeats 1000000 in
theorem walk1_nil (r : Rw) (hr : r.ok) (F : Nat → Nat → Fc) (B db tb xb ob ab base : Nat) (bA dA vA : Option Addr) (bc dc vc t : Nat) (ht : t ≤ r.n) : WalkPost r F B db tb xb ob ab base bA dA vA bc dc vc t [] := by
  intro x l0 v W hx hw hl h
  have e : x = t := hw
  subst e
  have HW := Lib.hid h
  have c0 := h.t
  clear h hw
  go_enter Tryz.func140, Tryz.ntmps140
  go_wp2_with fail
  exact bodyPost_ret (v := .tuple #[]) (by simp [results, Tryz.results140, go_sem]) rfl ⟨⟨_, rfl⟩, Kp.refl _ _ _, v, by rw [List.append_nil]; exact HW.out⟩

set_option maxRecDepth 100000 in
set_option maxHeartbeats 4000000 in
theorem walk1_cons (r : Rw) (hr : r.ok) (F : Nat → Nat → Fc) (B db tb xb ob ab base : Nat) (bA dA vA : Option Addr) (bc dc vc t : Nat) (ht : t ≤ r.n) (f : Fc) (l : List Fc) (ih : WalkPost r F B db tb xb ob ab base bA dA vA bc dc vc t l) : WalkPost r F B db tb xb ob ab base bA dA vA bc dc vc t (f :: l) := by
  intro x l0 v W hx hw hl h
  obtain ⟨hne, _, hf, hh, hwl⟩ := hw
  have HW := Lib.hid h
  have HN := Lib.hid hwl
  have HH := Lib.hid hh
  have hn6 := hr.n6
  have c0 := h.t
  have c1 := h.x
  obtain ⟨c2, c3, c4⟩ := h.f x t (by omega) (by omega)
  rw [← hf] at c2 c3 c4
  have hb0 := (Rw.ab_bd hr hh).2.1
  have HBI := Lib.hid (Rw.ab_bd hr hh).2.2.2.2.2.2
  have hne' : ((x : Int) == (t : Int)) = false := by rw [beq_eq_false_iff_ne]; omega
  have hx0 : (0 : Int) ≤ (x : Int) := by omega
  have hx7 : (x : Int) < 7 := by omega
  have ht0 : (0 : Int) ≤ (t : Int) := by omega
  have ht7 : (t : Int) < 7 := by omega
  have HR := Lib.hid hr
  have IH := Lib.hid (fun l0 v W h1 h2 => ih (r.b f) l0 v W hb0 hwl h1 h2)
  obtain ⟨⟨h1, h2, h3, h4, h5⟩, ⟨n1, n2, n3, n4⟩, hB, hs⟩ := h.h
  have hl' : l0.length + l.length + 1 ≤ 1000 := by simpa [Nat.add_assoc] using hl
  clear h hwl hh hf hne hr ih
  obtain ⟨i0, hi, hz0, hz1, hz2⟩ := info_parts infoFc
  go_enter Tryz.func140, Tryz.ntmps140
  go_upto_region 1 with fail
  go_region_held3 (fun w' => w'.cell? ⟨tb, 0, none⟩ = some (.int .i64 t) ∧ w'.cell? ⟨xb, 0, none⟩ = some (.pointer (some ⟨db, 0, none⟩)) ∧ w'.cell? ⟨db, 52 + x * 21 + t * 3, none⟩ = some (.bool f.w) ∧ w'.cell? ⟨db, 52 + x * 21 + t * 3 + 1, none⟩ = some (.int .i64 f.i) ∧ w'.cell? ⟨db, 52 + x * 21 + t * 3 + 2, none⟩ = some (.bool f.m)) ((go_split_ands; (repeat' refine And.intro ?_ ?_) <;> (repeat (first | with_reducible assumption | (simp; done) | (with_reducible first | refine Kd ?_ | refine Kn ?_ | refine Kb (by assumption) ?_) | ((with_reducible first | refine Kw ?_ ?_ | refine Fw ?_) <;> first | with_reducible rfl | (simp; done)) | (with_reducible first | refine Ka _ ?_ | refine Ks _ (by first | exact Nat.le_refl _ | omega | (simp; done) | (simp; omega) | (simp at *; omega)) ?_ | refine Fd ?_ | refine Fn ?_ | refine Fb (by assumption) (by first | exact Nat.le_refl _ | omega | (simp; done) | (simp; omega) | (simp at *; omega)) ?_ | refine Fa _ (by first | exact Nat.le_refl _ | omega | (simp; done) | (simp; omega) | (simp at *; omega)) ?_ | refine Fs _ ?_))))) (fail)
  go_upto_region 2 with fail
  refine wp_world (fun W1 => (W1.cell? ⟨W.heap.size, 0, none⟩ = some (.bool f.w) ∧ W1.cell? ⟨W.heap.size, 1, none⟩ = some (.int .i64 f.i) ∧ W1.cell? ⟨W.heap.size, 2, none⟩ = some (.bool f.m)) ∧ Below W.heap.size W W1 ∧ W.heap.size + 1 ≤ W1.heap.size) ⟨(by (repeat' refine And.intro ?_ ?_) <;> (repeat (first | with_reducible assumption | (simp; done) | (with_reducible first | refine Kd ?_ | refine Kn ?_ | refine Kb (by assumption) ?_) | ((with_reducible first | refine Kw ?_ ?_ | refine Fw ?_) <;> first | with_reducible rfl | (simp; done)) | (with_reducible first | refine Ka _ ?_ | refine Ks _ (by first | exact Nat.le_refl _ | omega | (simp; done) | (simp; omega)) ?_ | refine Fd ?_ | refine Fn ?_ | refine Fb (by assumption) (by first | exact Nat.le_refl _ | omega | (simp; done) | (simp; omega)) ?_ | refine Fa _ (by first | exact Nat.le_refl _ | omega | (simp; done) | (simp; omega)) ?_ | refine Fs _ ?_)))), (by repeat (first | (with_reducible first | exact Below.refl _ _ | assumption | refine Below.drew ?_) | ((with_reducible first | refine Lc ?_ ?_ _ | refine Ls ?_ ?_ _ | refine Lv (by assumption) ?_ ?_); · first | exact Nat.le_refl _ | omega | (dsimp only; omega) | (simp only [World.size_alloc, World.size_drew, World.heap_drewN]; omega) | (simp; omega)))), by simp⟩ ?_
  rintro w1 ⟨⟨q0, q1, q2⟩, hb1, hz1'⟩
  have HW1 := Lib.hid (HW.out.later hb1)
  have HK1 := Lib.hid (Kp.below (base := base) (ob := ob) hb1 hs)
  obtain ⟨o0, o1⟩ := HW1.out.o
  have hv0 := HW.out.own.lt
  have hv1 := HW1.out.own.lt
  clear hb1 c0 c1 c2 c3 c4
  go_upto_region 3 with (at_builtin; refine wpList_append_lies _ rfl (.tmp 21) (.tmp 23) 73 rfl base 76 i0 (.agg #[.bool false, .int .i64 0, .bool false]) 3 24 fcs_under hi hz0 hz1 hz2 rfl (by decide) v l0.length (fcL l0) rfl (HW1.out.own.alloc _) ⟨w1.heap.size, 0, none⟩ 1 1 [.bool f.w, .int .i64 f.i, .bool f.m] rfl rfl (new_cells (cs := [.bool f.w, .int .i64 f.i, .bool f.m])) (fcC_one f) (by omega) (by unfold maxLen; omega) (by omega) (by simp; omega) (w1.heap.size + 1) (by simp) ?_; intro g cap w6 hown6 hgr6 hat6 hlt6; have s6 : w6.heap[ob]? = w1.heap[ob]? := (hgr6.block _ (by simp; omega) (fun e => by have := (hv1 _ e.symm).1; omega)).trans (Below.heap_alloc _ _ _ (by omega)); have a6 := cell_same s6 o0; have b6 := fro_same s6 o1)
  have hkq : w6.heap[W.heap.size]? = w1.heap[W.heap.size]? := (hgr6.block _ (by simp; omega) (fun e => by have := (hv0 _ e.symm).2; omega)).trans (Below.heap_alloc _ _ _ (by omega))
  have hk6 : Kp base ob w1 (w6.setCell ⟨ob, 0, none⟩ (.slice (some ⟨g, 0, none⟩) (l0.length + 1) cap)) := ⟨hgr6.os, hgr6.tape, hgr6.output, by have := hgr6.size; simp [World.setCell] at this ⊢; omega, fun i hi hn => (set_heap _ (by dsimp only; omega)).trans ((hgr6.block i (by simp; omega) (fun e => by have := (hv1 _ e.symm).1; omega)).trans (Below.heap_alloc _ _ _ (by omega)))⟩
  refine wp_world (fun W7 => WkAt W7 r F B db tb xb ob ab base bA bc dA dc vA vc t (.slice (some ⟨g, 0, none⟩) (l0.length + 1) cap) (l0 ++ [f]) ∧ (W7.cell? ⟨W.heap.size, 0, none⟩ = some (.bool f.w) ∧ W7.cell? ⟨W.heap.size, 1, none⟩ = some (.int .i64 f.i) ∧ W7.cell? ⟨W.heap.size, 2, none⟩ = some (.bool f.m)) ∧ Kp base ob W W7 ∧ W.heap.size + 1 ≤ W7.heap.size) ⟨HW1.out.keep hk6 ⟨World.cell?_setCell_same' _ _ _ (by rw [a6]; rfl), Fs _ b6⟩ (by
    rw [fcL_snoc, List.length_append]
    exact owns_sm hown6 (fun g h1 h2 => set_heap _ (by dsimp only; omega))), ⟨Ks _ (by dsimp only; omega) (cell_same hkq q0), Ks _ (by dsimp only; omega) (cell_same hkq q1), Ks _ (by dsimp only; omega) (cell_same hkq q2)⟩, HK1.out.trans hk6, by have := hk6.size; omega⟩ ?_
  rintro w7 ⟨hw7, ⟨p0, p1, p2⟩, hk7, hz7⟩
  have HW7 := Lib.hid hw7
  have HK7 := Lib.hid hk7
  have x7 := hw7.x
  clear hown6 hgr6 hat6 hlt6 s6 a6 b6 hkq hk6 o0 o1 q0 q1 q2 hw7 hk7 HW1 HK1 hv0 hv1
  go_wp2_with fail
  refine (leads_any r HR.out f HH.out B db bA dA vA bc dc vc _ HW7.out.a).mono ?_
  rintro e w8 ⟨rfl, hb8⟩
  have HW8 := Lib.hid (HW7.out.later hb8)
  have HK8 := Lib.hid (HK7.out.trans (Kp.below (base := base) (ob := ob) hb8 (by omega)))
  have s8 := HW8.out.s
  clear hb8 x7 p0 p1 p2 HW7 HK7
  go_wp2_with fail
  rw [← HBI.out]
  refine (IH.out (l0 ++ [f]) _ w8 (by simp; omega) HW8.out).mono ?_
  rintro e w9 ⟨⟨u, rfl⟩, hk9, v', hw9⟩
  have HF := Lib.hid (show Kp base ob W w9 ∧ ∃ v', WkAt w9 r F B db tb xb ob ab base bA bc dA dc vA vc t v' (l0 ++ f :: l) from ⟨HK8.out.trans hk9, v', by rw [List.append_assoc] at hw9; exact hw9⟩)
  clear hk9 hw9 s8
  go_wp2_with fail
  go_end0
  exact ⟨⟨_, rfl⟩, HF.out⟩

theorem walk1_any (r : Rw) (hr : r.ok) (F : Nat → Nat → Fc) (B db tb xb ob ab base : Nat) (bA dA vA : Option Addr) (bc dc vc t : Nat) (ht : t ≤ r.n) : ∀ l, WalkPost r F B db tb xb ob ab base bA dA vA bc dc vc t l
  | [] => walk1_nil r hr F B db tb xb ob ab base bA dA vA bc dc vc t ht
  | f :: l => walk1_cons r hr F B db tb xb ob ab base bA dA vA bc dc vc t ht f l (walk1_any r hr F B db tb xb ob ab base bA dA vA bc dc vc t ht l)
end Go.Proofs.YtnnikeolgknfoaaGreat
