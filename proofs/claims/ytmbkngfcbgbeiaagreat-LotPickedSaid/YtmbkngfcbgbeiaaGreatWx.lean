/- more of package lot. -/
import Derived.Test.YtmbkngfcbgbeiaaGreatWt
set_option linter.unusedSimpArgs false
set_option linter.unusedVariables false
namespace Go.Proofs.YtmbkngfcbgbeiaaGreat
open Go.RowKit Go.Shelf

theorem set_heap {w : World} {a : Addr} (u : Value) {k : Nat} (h : k ≠ a.block) : (w.setCell a u).heap[k]? = w.heap[k]? := by
  unfold World.setCell
  rw [Array.getElem?_modify, if_neg (fun e => h e.symm)]
theorem OwnPk.mono {w : World} {lo lo' n : Nat} {A : Option Addr} {P : Nat → Pk} (h : OwnPk w lo A n P) (hl : lo' ≤ lo) : OwnPk w lo' A n P := fun k hk => by
  obtain ⟨b, hA, h1, h2⟩ := h k hk
  exact ⟨b, hA, Nat.le_trans hl h1, h2⟩
theorem OwnGd.mono {w : World} {lo lo' n : Nat} {A : Option Addr} {P : Nat → Gd} (h : OwnGd w lo A n P) (hl : lo' ≤ lo) : OwnGd w lo' A n P := fun k hk => by
  obtain ⟨b, hA, h1, h2⟩ := h k hk
  exact ⟨b, hA, Nat.le_trans hl h1, h2⟩
theorem OwnPk.set {w : World} {lo n : Nat} {A : Option Addr} {P : Nat → Pk} (h : OwnPk w lo A n P) {p : Addr} (hp : p.block < lo) (v : Value) : OwnPk (w.setCell p v) lo A n P := fun k hk => by
  obtain ⟨b, hA, h1, c0, c1, c2, c3, hf⟩ := h k hk
  have hne : b ≠ p.block := by omega
  exact ⟨b, hA, h1, cell_same (set_heap _ hne) c0, cell_same (set_heap _ hne) c1, cell_same (set_heap _ hne) c2, cell_same (set_heap _ hne) c3, fun i => fro_set_of _ (hf i)⟩
theorem OwnGd.set {w : World} {lo n : Nat} {A : Option Addr} {P : Nat → Gd} (h : OwnGd w lo A n P) {p : Addr} (hp : p.block < lo) (v : Value) : OwnGd (w.setCell p v) lo A n P := fun k hk => by
  obtain ⟨b, hA, h1, c0, c1, hf⟩ := h k hk
  have hne : b ≠ p.block := by omega
  exact ⟨b, hA, h1, cell_same (set_heap _ hne) c0, cell_same (set_heap _ hne) c1, fun i => fro_set_of _ (hf i)⟩
theorem PkRow.none {w : World} {B n : Nat} {A : Option Addr} {P : Nat → Pk} (h : PkRow w B A n P) : A = none → n = 0 := fun e => by
  cases n with
  | zero => rfl
  | succ n => obtain ⟨b, o, hA, _⟩ := h 0 (by omega); rw [e] at hA; cases hA
theorem GdRow.none {w : World} {B n : Nat} {A : Option Addr} {P : Nat → Gd} (h : GdRow w B A n P) : A = none → n = 0 := fun e => by
  cases n with
  | zero => rfl
  | succ n => obtain ⟨b, o, hA, _⟩ := h 0 (by omega); rw [e] at hA; cases hA

/-- a picking of which more sacks were opened -/
def Pk.more (x : Pk) (q f : Int) : Pk := { x with o := x.o + q, f := x.f + f }
def St.more (st : St) (p : Nat) (q f : Int) : St := { st with P := fun k => if k = p then (st.P k).more q f else st.P k }

/-- the cells of an empty store -/
def St0 (w : World) (b : Nat) : Prop := (w.cell? ⟨b, 0, none⟩ = some (.slice none 0 0) ∧ w.cell? ⟨b, 1, none⟩ = some (.slice none 0 0) ∧ w.cell? ⟨b, 2, none⟩ = some (.int .i64 0)) ∧ w.frozen? ⟨b, 0, none⟩ = false ∧ w.frozen? ⟨b, 1, none⟩ = false ∧ w.frozen? ⟨b, 2, none⟩ = false
theorem St0.same {w w' : World} {b : Nat} (h : St0 w b) (hs : w'.heap[b]? = w.heap[b]?) : St0 w' b :=
  ⟨⟨cell_same hs h.1.1, cell_same hs h.1.2.1, cell_same hs h.1.2.2⟩, fro_same hs h.2.1, fro_same hs h.2.2.1, fro_same hs h.2.2.2⟩
theorem OwnPk.more {w : World} {lo b : Nat} {st : St} (h : OwnPk w lo (some ⟨b, 0, none⟩) st.n st.P) (p : Nat) (q f : Int) (hp : p < st.n) :
    OwnPk ((w.setCell ⟨b, p * 4 + 2, none⟩ (.int .i64 ((st.P p).o + q))).setCell ⟨b, p * 4 + 3, none⟩ (.int .i64 ((st.P p).f + f))) lo (some ⟨b, 0, none⟩) (st.more p q f).n (st.more p q f).P := fun k hk => by
  obtain ⟨_, hA, hl, c0, c1, c2, c3, hf⟩ := h k hk
  injection hA with hA
  injection hA with hA
  subst hA
  have hP : (st.more p q f).P k = if k = p then (st.P k).more q f else st.P k := rfl
  have oth : ∀ (i j : Nat) (w : World) (v u : Value), i ≠ j → w.cell? ⟨b, i, none⟩ = some v → (w.setCell ⟨b, j, none⟩ u).cell? ⟨b, i, none⟩ = some v := fun i j w v u h hc => by
    rw [World.cell?_setCell_other _ _ _ _ (by intro e; injection e with _ e _; omega)]; exact hc
  rw [hP]
  refine ⟨b, rfl, hl, ?_, ?_, ?_, ?_, fun i => fro_set_of _ (fro_set_of _ (hf i))⟩
  · have e : (if k = p then (st.P k).more q f else st.P k).s = (st.P k).s := by split <;> rfl
    rw [e]; exact oth _ _ _ _ _ (by omega) (oth _ _ _ _ _ (by omega) c0)
  · have e : (if k = p then (st.P k).more q f else st.P k).w = (st.P k).w := by split <;> rfl
    rw [e]; exact oth _ _ _ _ _ (by omega) (oth _ _ _ _ _ (by omega) c1)
  · refine oth _ _ _ _ _ (by omega) ?_
    by_cases hkp : k = p
    · subst hkp
      rw [if_pos rfl]
      exact World.cell?_setCell_same' _ _ _ (by rw [c2]; rfl)
    · rw [if_neg hkp]
      exact oth _ _ _ _ _ (by omega) c2
  · by_cases hkp : k = p
    · subst hkp
      rw [if_pos rfl]
      exact World.cell?_setCell_same' _ _ _ (by rw [oth _ _ _ _ _ (by omega) c3]; rfl)
    · rw [if_neg hkp]
      exact oth _ _ _ _ _ (by omega) (oth _ _ _ _ _ (by omega) c3)
theorem OwnGd.set_out {w : World} {lo n : Nat} {A : Option Addr} {G : Nat → Gd} (h : OwnGd w lo A n G) {b i : Nat} (hb : ∀ c, A = some ⟨c, 0, none⟩ → 0 < n → c ≠ b) (v : Value) : OwnGd (w.setCell ⟨b, i, none⟩ v) lo A n G := fun k hk => by
  obtain ⟨c, hA, h1, c0, c1, hf⟩ := h k hk
  have hne : c ≠ b := hb c hA (by omega)
  exact ⟨c, hA, h1, cell_same (set_heap _ hne) c0, cell_same (set_heap _ hne) c1, fun i => fro_set_of _ (hf i)⟩
/-- what more gives -/
def MorePost (st : St) (lo : Nat) (W : World) (e : Ending) (W' : World) : Prop :=
  Below W.heap.size W W' ∧ ∃ pA pc gA gc, e = .returned (stV pA st.n pc gA st.m gc st.lots) ∧ OwnPk W' lo pA st.n st.P ∧ OwnGd W' lo gA st.m st.G ∧ st.n ≤ pc ∧ st.m ≤ gc

set_option maxRecDepth 100000 in
set_option maxHeartbeats 2000000 in
/-- lot.desk.more -/
theorem more_any (st : St) (hst : st.ok) (db : Nat) (p : Nat) (q f : Int) (hp : p < st.n) (hq : 0 ≤ q ∧ q ≤ 6) (hf : 0 ≤ f ∧ f ≤ 6) (W : World) (hD : DeskAt W W.heap.size db st) :
    Calls Tryz.prog 75 #[.pointer (some ⟨db, 0, none⟩), .int .i64 p, .int .i64 q, .int .i64 f] W (MorePost (st.more p q f) W.heap.size W) := by
  have hdl := hD.lt
  have HO := Lib.hid hst
  have hn4 := hst.n4
  have hm4 := hst.m4
  obtain ⟨pA, pc, gA, gc, hpr, hgr, d0, d1, d3, d4⟩ := hD.rows
  have d2 := hD.lots
  have HP := Lib.hid hpr
  have HG := Lib.hid hgr
  clear hD hpr hgr hst
  go_enter Tryz.func75, Tryz.ntmps75
  go_upto_region 2 with fail
  refine wp_name (fun W1 => (W1.cell? ⟨db, 0, none⟩ = some (.slice pA st.n pc) ∧ W1.cell? ⟨db, 1, none⟩ = some (.slice gA st.m gc)) ∧ (W1.cell? ⟨W.heap.size + 1, 0, none⟩ = some (.slice pA st.n pc) ∧ W1.cell? ⟨W.heap.size + 1, 1, none⟩ = some (.slice gA st.m gc) ∧ W1.cell? ⟨W.heap.size + 1, 2, none⟩ = some (.int .i64 st.lots)) ∧ (W1.frozen? ⟨W.heap.size + 1, 0, none⟩ = false ∧ W1.frozen? ⟨W.heap.size + 1, 1, none⟩ = false) ∧ Below W.heap.size W W1 ∧ W1.heap.size = W.heap.size + 1 + 1 ∧ (W1.cell? ⟨W.heap.size, 0, none⟩ = some (.slice none 0 0) ∧ W1.cell? ⟨W.heap.size, 1, none⟩ = some (.slice none 0 0) ∧ W1.cell? ⟨W.heap.size, 2, none⟩ = some (.int .i64 0)) ∧ W1.frozen? ⟨W.heap.size, 0, none⟩ = false ∧ W1.frozen? ⟨W.heap.size, 1, none⟩ = false ∧ W1.frozen? ⟨W.heap.size, 2, none⟩ = false) ⟨(by (repeat' refine And.intro ?_ ?_) <;> (repeat (first | (with_reducible assumption) | (simp; done) | (with_reducible refine cell_drew_of ?_) | (with_reducible refine cell_drewN_of ?_) | (with_reducible refine cell_below_of (by with_reducible assumption) ?_) | ((with_reducible refine cell_new_of ?_ ?_) <;> (first | (with_reducible rfl) | (simp; done))) | ((with_reducible refine fro_new_of ?_) <;> (first | (with_reducible rfl) | (simp; done))) | (with_reducible refine cell_alloc_of _ ?_) | (with_reducible refine cell_set_of _ (by (first | exact Nat.le_refl _ | omega | (simp; done) | (simp; omega))) ?_) | (with_reducible refine fro_drew_of ?_) | (with_reducible refine fro_drewN_of ?_) | (with_reducible refine fro_below_of (by with_reducible assumption) (by (first | exact Nat.le_refl _ | omega | (simp; done) | (simp; omega))) ?_) | (with_reducible refine fro_alloc_of _ (by (first | exact Nat.le_refl _ | omega | (simp; done) | (simp; omega))) ?_) | (with_reducible refine fro_set_of _ ?_)))), (by (repeat' refine And.intro ?_ ?_) <;> (repeat (first | (with_reducible assumption) | (simp; done) | (with_reducible refine cell_drew_of ?_) | (with_reducible refine cell_drewN_of ?_) | (with_reducible refine cell_below_of (by with_reducible assumption) ?_) | ((with_reducible refine cell_new_of ?_ ?_) <;> (first | (with_reducible rfl) | (simp; done))) | ((with_reducible refine fro_new_of ?_) <;> (first | (with_reducible rfl) | (simp; done))) | (with_reducible refine cell_alloc_of _ ?_) | (with_reducible refine cell_set_of _ (by (first | exact Nat.le_refl _ | omega | (simp; done) | (simp; omega))) ?_) | (with_reducible refine fro_drew_of ?_) | (with_reducible refine fro_drewN_of ?_) | (with_reducible refine fro_below_of (by with_reducible assumption) (by (first | exact Nat.le_refl _ | omega | (simp; done) | (simp; omega))) ?_) | (with_reducible refine fro_alloc_of _ (by (first | exact Nat.le_refl _ | omega | (simp; done) | (simp; omega))) ?_) | (with_reducible refine fro_set_of _ ?_)))), (by (repeat' refine And.intro ?_ ?_) <;> (repeat (first | (with_reducible assumption) | (simp; done) | (with_reducible refine cell_drew_of ?_) | (with_reducible refine cell_drewN_of ?_) | (with_reducible refine cell_below_of (by with_reducible assumption) ?_) | ((with_reducible refine cell_new_of ?_ ?_) <;> (first | (with_reducible rfl) | (simp; done))) | ((with_reducible refine fro_new_of ?_) <;> (first | (with_reducible rfl) | (simp; done))) | (with_reducible refine cell_alloc_of _ ?_) | (with_reducible refine cell_set_of _ (by (first | exact Nat.le_refl _ | omega | (simp; done) | (simp; omega))) ?_) | (with_reducible refine fro_drew_of ?_) | (with_reducible refine fro_drewN_of ?_) | (with_reducible refine fro_below_of (by with_reducible assumption) (by (first | exact Nat.le_refl _ | omega | (simp; done) | (simp; omega))) ?_) | (with_reducible refine fro_alloc_of _ (by (first | exact Nat.le_refl _ | omega | (simp; done) | (simp; omega))) ?_) | (with_reducible refine fro_set_of _ ?_)))), (by repeat (first | (with_reducible exact Below.refl _ _) | (with_reducible refine Below.drew ?_) | (with_reducible refine below_drewN ?_ _) | ((with_reducible refine below_alloc ?_ ?_ _); · (first | exact Nat.le_refl _ | omega | (simp; done) | (simp; omega) | (simp at *; omega))) | ((with_reducible refine below_set ?_ ?_ _); · (first | exact Nat.le_refl _ | omega | (simp; done) | (simp; omega) | (simp at *; omega))) | ((with_reducible refine below_via (by with_reducible assumption) ?_ ?_); · (first | exact Nat.le_refl _ | omega | (simp; done) | (simp; omega) | (simp at *; omega))))), by simp, (by (repeat' refine And.intro ?_ ?_) <;> (repeat (first | (with_reducible assumption) | (simp; done) | (with_reducible refine cell_drew_of ?_) | (with_reducible refine cell_drewN_of ?_) | (with_reducible refine cell_below_of (by with_reducible assumption) ?_) | ((with_reducible refine cell_new_of ?_ ?_) <;> (first | (with_reducible rfl) | (simp; done))) | ((with_reducible refine fro_new_of ?_) <;> (first | (with_reducible rfl) | (simp; done))) | (with_reducible refine cell_alloc_of _ ?_) | (with_reducible refine cell_set_of _ (by (first | exact Nat.le_refl _ | omega | (simp; done) | (simp; omega))) ?_) | (with_reducible refine fro_drew_of ?_) | (with_reducible refine fro_drewN_of ?_) | (with_reducible refine fro_below_of (by with_reducible assumption) (by (first | exact Nat.le_refl _ | omega | (simp; done) | (simp; omega))) ?_) | (with_reducible refine fro_alloc_of _ (by (first | exact Nat.le_refl _ | omega | (simp; done) | (simp; omega))) ?_) | (with_reducible refine fro_set_of _ ?_))))⟩ ?_
  clear d0 d1 d2
  rintro W1 ⟨⟨d0, d1⟩, ⟨s0, s1, s2⟩, ⟨f0, f1⟩, hb0, hsz, ⟨o0, o1, o2⟩, g0, g1, g2⟩
  have HB0 := Lib.hid hb0
  clear hb0
  go_cut [] (fun wx => ∃ pA' pc' gA' gc', (wx.cell? ⟨W.heap.size + 1, 0, none⟩ = some (.slice pA' st.n pc') ∧ wx.cell? ⟨W.heap.size + 1, 1, none⟩ = some (.slice gA' st.m gc') ∧ wx.cell? ⟨W.heap.size + 1, 2, none⟩ = some (.int .i64 st.lots)) ∧
    st.n ≤ pc' ∧ st.m ≤ gc' ∧ Hid (OwnPk wx W1.heap.size pA' st.n st.P) ∧ Hid (OwnGd wx W1.heap.size gA' st.m st.G) ∧ Hid (Below W.heap.size W wx) ∧ Hid (St0 wx W.heap.size) ∧ W1.heap.size ≤ wx.heap.size ∧ Hid (∀ b c, pA' = some ⟨b, 0, none⟩ → gA' = some ⟨c, 0, none⟩ → 0 < st.m → c ≠ b))
  case first =>
    go_region_held3 (fun w' => w'.cell? ⟨db, 0, none⟩ = some (.slice pA st.n pc) ∧ w'.cell? ⟨db, 1, none⟩ = some (.slice gA st.m gc)) ((go_split_ands; (repeat' refine And.intro ?_ ?_) <;> (repeat (first | (with_reducible assumption) | (simp; done) | (with_reducible refine cell_drew_of ?_) | (with_reducible refine cell_drewN_of ?_) | (with_reducible refine cell_below_of (by with_reducible assumption) ?_) | ((with_reducible refine cell_new_of ?_ ?_) <;> (first | (with_reducible rfl) | (simp; done))) | ((with_reducible refine fro_new_of ?_) <;> (first | (with_reducible rfl) | (simp; done))) | (with_reducible refine cell_alloc_of _ ?_) | (with_reducible refine cell_set_of _ (by (first | exact Nat.le_refl _ | omega | (simp; done) | (simp; omega))) ?_) | (with_reducible refine fro_drew_of ?_) | (with_reducible refine fro_drewN_of ?_) | (with_reducible refine fro_below_of (by with_reducible assumption) (by (first | exact Nat.le_refl _ | omega | (simp; done) | (simp; omega))) ?_) | (with_reducible refine fro_alloc_of _ (by (first | exact Nat.le_refl _ | omega | (simp; done) | (simp; omega))) ?_) | (with_reducible refine fro_set_of _ ?_))))) (first | (go_at_call 106; refine (clone_pk pA st.n pc st.P _ (((HP.out.below (show Below W.heap.size W _ from HB0.out.trans ((show Below W1.heap.size W1 _ from (by repeat (first | (with_reducible exact Below.refl _ _) | (with_reducible refine Below.drew ?_) | (with_reducible refine below_drewN ?_ _) | ((with_reducible refine below_alloc ?_ ?_ _); · (first | exact Nat.le_refl _ | omega | (simp; done) | (simp; omega) | (simp at *; omega))) | ((with_reducible refine below_set ?_ ?_ _); · (first | exact Nat.le_refl _ | omega | (simp; done) | (simp; omega) | (simp at *; omega))) | ((with_reducible refine below_via (by with_reducible assumption) ?_ ?_); · (first | exact Nat.le_refl _ | omega | (simp; done) | (simp; omega) | (simp at *; omega)))))).mono (by omega)))).mono (by (first | exact Nat.le_refl _ | omega | (simp; done) | (simp; omega))))) (by omega) HP.out.none).mono ?_; rintro e wp ⟨hbp, pA', pc', rfl, hop, hpc'⟩; obtain ⟨hcp, hfp⟩ := bcell hbp; have hzp := hbp.size; (try simp only [World.size_drew, World.heap_drewN, World.size_alloc] at hzp)) | (go_at_call 107; refine (clone_gd gA st.m gc st.G _ (((HG.out.below (show Below W.heap.size W _ from HB0.out.trans ((show Below W1.heap.size W1 _ from (by repeat (first | (with_reducible exact Below.refl _ _) | (with_reducible refine Below.drew ?_) | (with_reducible refine below_drewN ?_ _) | ((with_reducible refine below_alloc ?_ ?_ _); · (first | exact Nat.le_refl _ | omega | (simp; done) | (simp; omega) | (simp at *; omega))) | ((with_reducible refine below_set ?_ ?_ _); · (first | exact Nat.le_refl _ | omega | (simp; done) | (simp; omega) | (simp at *; omega))) | ((with_reducible refine below_via (by with_reducible assumption) ?_ ?_); · (first | exact Nat.le_refl _ | omega | (simp; done) | (simp; omega) | (simp at *; omega)))))).mono (by omega)))).mono (by (first | exact Nat.le_refl _ | omega | (simp; done) | (simp; omega))))) (by omega) HG.out.none).mono ?_; rintro e wg ⟨hbg, gA', gc', rfl, hog, hgc'⟩; obtain ⟨hcg, hfg⟩ := bcell hbg; have hzg := hbg.size; (try simp only [World.size_drew, World.heap_drewN, World.size_alloc] at hzg)))
    have hbx : Below W1.heap.size W1 wg := (by repeat (first | (with_reducible exact Below.refl _ _) | (with_reducible refine Below.drew ?_) | (with_reducible refine below_drewN ?_ _) | ((with_reducible refine below_alloc ?_ ?_ _); · (first | exact Nat.le_refl _ | omega | (simp; done) | (simp; omega) | (simp at *; omega))) | ((with_reducible refine below_set ?_ ?_ _); · (first | exact Nat.le_refl _ | omega | (simp; done) | (simp; omega) | (simp at *; omega))) | ((with_reducible refine below_via (by with_reducible assumption) ?_ ?_); · (first | exact Nat.le_refl _ | omega | (simp; done) | (simp; omega) | (simp at *; omega)))))
    have hop' := Lib.hid (((hop.later hbg).set (p := ⟨W.heap.size + 1, 0, none⟩) (by show W.heap.size + 1 < W1.heap.size; omega) (.slice pA' st.n pc')).set (p := ⟨W.heap.size + 1, 1, none⟩) (by show W.heap.size + 1 < W1.heap.size; omega) (.slice gA' st.m gc'))
    have hog' := Lib.hid (((hog.mono hzp).set (p := ⟨W.heap.size + 1, 0, none⟩) (by show W.heap.size + 1 < W1.heap.size; omega) (.slice pA' st.n pc')).set (p := ⟨W.heap.size + 1, 1, none⟩) (by show W.heap.size + 1 < W1.heap.size; omega) (.slice gA' st.m gc'))
    have hst0 : St0 W1 W.heap.size := ⟨⟨o0, o1, o2⟩, g0, g1, g2⟩
    have hst' := Lib.hid (((hst0.same (hbx.block _ (by omega))).same (w' := wg.setCell ⟨W.heap.size + 1, 0, none⟩ (.slice pA' st.n pc')) (set_heap _ (by simp))).same (w' := (wg.setCell ⟨W.heap.size + 1, 0, none⟩ (.slice pA' st.n pc')).setCell ⟨W.heap.size + 1, 1, none⟩ (.slice gA' st.m gc')) (set_heap _ (by simp)))
    have hsx : W1.heap.size ≤ wg.heap.size := hbx.size
    have r0 := cell_below_of hbx s0
    have r1 := cell_below_of hbx s1
    have r2 := cell_below_of hbx s2
    have hbb := Lib.hid (HB0.out.trans (hbx.mono (by omega)))
    have hdis : Hid (∀ b c, pA' = some ⟨b, 0, none⟩ → gA' = some ⟨c, 0, none⟩ → 0 < st.m → c ≠ b) := Lib.hid (by
      rintro b c rfl rfl hm
      obtain ⟨b', hA, _, c0, _⟩ := hop 0 (by omega)
      injection hA with hA
      injection hA with hA
      subst hA
      obtain ⟨c', hA, hl, _⟩ := hog 0 hm
      injection hA with hA
      injection hA with hA
      subst hA
      have := World.block_lt_of_cell? wp _ c0
      dsimp only at this
      omega)
    clear hbx hop hog hcp hcg hfp hfg hbp hbg o0 o1 o2 g0 g1 g2 hst0 d0 d1 s0 s1 s2 f0 f1
    go_wp2_with fail
    go_meet
    exact ⟨pA', pc', gA', gc', ⟨by simp [go_sem, r0], by simp [go_sem, r0, r1], by simp [go_sem, r0, r1, r2]⟩, hpc', hgc', hop', hog', Lib.hid ((hbb.out.setCell (by simp) _).setCell (by simp) _), hst', by simp [World.setCell]; omega, hdis⟩
  case rest =>
    clear o0 o1 o2 g0 g1 g2 d0 d1 s0 s1 s2 f0 f1
    obtain ⟨pA', pc', gA', gc', ⟨s0, s1, s2⟩, hpc', hgc', hop, hog, hbx, hst, hsx, hdis⟩ := hcut
    obtain ⟨b, rfl, hbl, c0, c1, c2, c3, hfr⟩ := hop.out p hp
    have hne : b ≠ W.heap.size + 1 := by omega
    have hne2 : b ≠ W.heap.size := by omega
    have hr := (HO.out.pk p hp)
    obtain ⟨⟨ha1, ha2⟩, _, ⟨ho1, ho2⟩, hf1, hf2⟩ := hr
    have e1 : IntKind.i64.wrap ((st.P p).o + q) = (st.P p).o + q := IntWalk.i64_in _ (by omega)
    have e2 : IntKind.i64.wrap ((st.P p).f + f) = (st.P p).f + f := IntWalk.i64_in _ (by omega)
    have hp0 : (0 : Int) ≤ (p : Int) := by omega
    have hpn : (p : Int) < (st.n : Int) := by omega
    have hfr2 := hfr (p * 4 + 2)
    have hfr3 := hfr (p * 4 + 3)
    have o0 := hst.out.1.1
    have o1 := hst.out.1.2.1
    have o2 := hst.out.1.2.2
    have g0 := hst.out.2.1
    have g1 := hst.out.2.2.1
    have g2 := hst.out.2.2.2
    clear hfr
    go_wp2_with fail
    have hpk := (((hop.out.more p q f hp).set (p := ⟨W.heap.size, 0, none⟩) (by show W.heap.size < W1.heap.size; omega) (.slice (some ⟨b, 0, none⟩) st.n pc')).set (p := ⟨W.heap.size, 1, none⟩) (by show W.heap.size < W1.heap.size; omega) (.slice gA' st.m gc')).set (p := ⟨W.heap.size, 2, none⟩) (by show W.heap.size < W1.heap.size; omega) (.int .i64 st.lots)
    have hgd := (((((hog.out.set_out (b := b) (i := p * 4 + 2) (fun c hc hm => hdis.out b c rfl hc hm) (.int .i64 ((st.P p).o + q))).set_out (b := b) (i := p * 4 + 3) (fun c hc hm => hdis.out b c rfl hc hm) (.int .i64 ((st.P p).f + f))).set (p := ⟨W.heap.size, 0, none⟩) (by show W.heap.size < W1.heap.size; omega) (.slice (some ⟨b, 0, none⟩) st.n pc')).set (p := ⟨W.heap.size, 1, none⟩) (by show W.heap.size < W1.heap.size; omega) (.slice gA' st.m gc')).set (p := ⟨W.heap.size, 2, none⟩) (by show W.heap.size < W1.heap.size; omega) (.int .i64 st.lots))
    refine bodyPost_ret (v := stV (some ⟨b, 0, none⟩) st.n pc' gA' st.m gc' st.lots) ?_ rfl ⟨?_, _, _, _, _, rfl, hpk.mono (by omega), hgd.mono (by omega), hpc', hgc'⟩
    · clear hpk hgd
      exact (by simp (maxDischargeDepth := 9) [results, Tryz.results75, go_sem, o0, o1, o2, stV, hne, hne2])
    · exact ((((hbx.out.setCell (by simp; omega) _).setCell (by simp; omega) _).setCell (by simp) _).setCell (by simp) _).setCell (by simp) _
end Go.Proofs.YtmbkngfcbgbeiaaGreat
