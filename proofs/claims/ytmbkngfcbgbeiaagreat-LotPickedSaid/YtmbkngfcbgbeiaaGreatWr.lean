/- best of package lot. -/
import Derived.Test.YtmbkngfcbgbeiaaGreatWq
set_option linter.unusedSimpArgs false
set_option linter.unusedVariables false
namespace Go.Proofs.YtmbkngfcbgbeiaaGreat
open Go.RowKit Go.Shelf
attribute [local go_sem] Oper.semAt_some

/-- the plan that the search tells -/
def St.planN (st : St) : Nat → Bag → List Bag
  | 0, _ => []
  | k + 1, left => if decide (0 < (st.choose (k + 1) left).2) then (st.choose (k + 1) left).1 :: st.planN k (left.less (st.choose (k + 1) left).1) else []
theorem St.planN_len (st : St) : ∀ k left, (st.planN k left).length ≤ k
  | 0, _ => Nat.le_refl _
  | k + 1, left => by
    unfold St.planN
    split
    · have := St.planN_len st k (left.less (st.choose (k + 1) left).1); simp; omega
    · simp

/-- a row of bags in memory, below block B -/
def BagRow (w : World) (B : Nat) (A : Option Addr) (L : List Bag) : Prop :=
  ∀ k x, L[k]? = some x → ∃ b o, A = some ⟨b, o, none⟩ ∧ b < B ∧ ∀ j, j < 4 → w.cell? ⟨b, o + k * 4 + j, none⟩ = some (.int .i64 (x.at j))

theorem St.planN_succ (st : St) (k : Nat) (left : Bag) : st.planN (k + 1) left = if decide (0 < (st.choose (k + 1) left).2) then (st.choose (k + 1) left).1 :: st.planN k (left.less (st.choose (k + 1) left).1) else [] := rfl
/-- the cells of bags -/
def bagCells (L : List Bag) : List Value := L.flatMap fun x => [.int .i64 x.a, .int .i64 x.b, .int .i64 x.c, .int .i64 x.d]
theorem bagCells_snoc (L : List Bag) (x : Bag) : bagCells (L ++ [x]) = bagCells L ++ [.int .i64 x.a, .int .i64 x.b, .int .i64 x.c, .int .i64 x.d] := by simp [bagCells]
theorem bagCells_len (L : List Bag) : (bagCells L).length = L.length * 4 := by
  induction L with
  | nil => rfl
  | cons x L ih =>
    show (_ ++ bagCells L).length = _
    rw [List.length_append, ih, List.length_cons]
    simp
    omega
theorem bagCells_get : ∀ (L : List Bag) (k : Nat) (x : Bag), L[k]? = some x → ∀ j, j < 4 → (bagCells L)[k * 4 + j]? = some (.int .i64 (x.at j))
  | [], k, x, h, j, hj => by simp at h
  | y :: L, 0, x, h, j, hj => by
    simp only [List.getElem?_cons_zero, Option.some.injEq] at h
    subst h
    match j, hj with
    | 0, _ => rfl
    | 1, _ => rfl
    | 2, _ => rfl
    | 3, _ => rfl
  | y :: L, k + 1, x, h, j, hj => by
    simp only [List.getElem?_cons_succ] at h
    have ih := bagCells_get L k x h j hj
    show (_ ++ bagCells L)[_]? = _
    rw [List.getElem?_append_right (by simp; omega)]
    simp only [List.length_cons, List.length_nil]
    rw [show (k + 1) * 4 + j - (0 + 1 + 1 + 1 + 1) = k * 4 + j by omega]
    exact ih
theorem BagRow.of_owns {w : World} {base n : Nat} {v : Value} {L : List Bag} (h : w.ownsRow base 89 4 v n (bagCells L)) (hn : n = L.length) : ∃ A c, v = .slice A L.length c ∧ BagRow w w.heap.size A L ∧ L.length ≤ c := by
  subst hn
  rcases h.2 with ⟨rfl, h0⟩ | ⟨g, cap, cur, rfl, hb, hg, hc, _⟩
  · refine ⟨none, 0, by rw [h0], fun k x hk => ?_, by omega⟩
    have : k < L.length := (List.getElem?_eq_some_iff.1 hk).1
    omega
  · refine ⟨some ⟨g, 0, none⟩, cap, rfl, fun k x hk => ⟨g, 0, rfl, (Array.getElem?_eq_some_iff.1 hg).1, fun j hj => ?_⟩, hc⟩
    rw [show (⟨g, 0 + k * 4 + j, none⟩ : Addr) = (⟨g, 0, none⟩ : Addr).add (k * 4 + j) by simp [Addr.add]]
    exact h.cells (g := g) rfl (k * 4 + j) _ (bagCells_get L k x hk j hj)
theorem BagRow.put {w : World} {B D : Nat} {A : Option Addr} {L : List Bag} {x : Option (List Deferred)} {o : Obj} (h : BagRow w B A L) (hD : w.heap[D]? = some (.deferred x)) : BagRow (w.putObj D o) B A L := fun k y hk => by
  obtain ⟨b, oo, hA, hlt, hc⟩ := h k y hk
  refine ⟨b, oo, hA, hlt, fun j hj => cell_same (World.putObj_heap_other ?_) (hc j hj)⟩
  rintro rfl
  obtain ⟨ob, ho, hcc⟩ := cells_of_cell (hc j hj)
  dsimp only at ho
  rw [hD] at ho; cases ho; cases hcc
theorem new_cells {w : World} {cs : List Value} {t : TypeId} : ∀ (j : Nat) (u : Value), cs[j]? = some u → (w.alloc (.cells cs.toArray t)).cell? ((⟨w.heap.size, 0, none⟩ : Addr).add j) = some u := fun j u h => by
  rw [show ((⟨w.heap.size, 0, none⟩ : Addr).add j) = ⟨w.heap.size, j, none⟩ by by_cases hj : j = 0 <;> simp [Addr.add, hj]]
  exact cell_of_row (World.alloc_heap_new w _) h
theorem infoBag : (Tryz.prog.info? 89).map (fun i => (i.zero, i.size, i.bytes)) = some (some (.agg #[.int .i64 0, .int .i64 0, .int .i64 0, .int .i64 0]), 4, 32) := by kernel_rfl
theorem bags_under : Tryz.prog.underlying 85 = some (.slice 89) := by kernel_rfl

/-- what best gives -/
def BestPost (st : St) (W : World) (e : Ending) (W' : World) : Prop :=
  Below W.heap.size W W' ∧ ∃ A c, e = .returned (.tuple #[.slice A (st.planN st.lots.toNat st.all).length c, .int .i64 (st.choose st.lots.toNat st.all).2]) ∧ BagRow W' W'.heap.size A (st.planN st.lots.toNat st.all) ∧ (st.planN st.lots.toNat st.all).length ≤ c

/-- worths of the bags of a list -/
def WorthL (st : St) (w : World) (b : Nat) (l : List Bag) : Prop := ∃ f, WorthAt w b l.length f ∧ ∀ y, f y = if y ∈ l then st.brings y else 0
theorem WorthL.same {st : St} {w w' : World} {b : Nat} {l : List Bag} (h : WorthL st w b l) (hb : w'.heap[b]? = w.heap[b]?) : WorthL st w' b l := by
  obtain ⟨f, h1, h2⟩ := h
  exact ⟨f, h1.same hb, h2⟩
theorem WorthL.lt {st : St} {w : World} {b : Nat} {l : List Bag} (h : WorthL st w b l) : b < w.heap.size := h.choose_spec.1.lt
theorem WorthL.zero {st : St} {w : World} {b : Nat} {l : List Bag} (h : WorthL st w b l) {x : Bag} (hx : st.brings x = 0) : WorthL st w b (l ++ [x]) := by
  obtain ⟨f, h1, h2⟩ := h
  refine ⟨f, h1.mono (by simp), fun y => ?_⟩
  rw [h2 y]
  by_cases e : y = x
  · subst e; simp [hx]
  · simp [e]
theorem WorthL.ne {st : St} {w : World} {b : Nat} {l : List Bag} (h : WorthL st w b l) {c o : Nat} {v : Value} (hc : w.cell? ⟨c, o, none⟩ = some v) : c ≠ b := by
  rintro rfl
  obtain ⟨f, ⟨D, ⟨es, clock, h0, _⟩, _⟩, _⟩ := h
  obtain ⟨ob, ho, hcc⟩ := cells_of_cell hc
  dsimp only at ho
  rw [h0] at ho; cases ho; cases hcc

set_option maxRecDepth 100000 in
set_option maxHeartbeats 4000000 in
/-- lot.desk.best -/
theorem best_any (st : St) (hst : st.ok) (db : Nat) (W : World) (hD : DeskAt W W.heap.size db st) :
    Calls Tryz.prog 29 #[.pointer (some ⟨db, 0, none⟩)] W (BestPost st W) := by
  have HO := Lib.hid hst
  have hdl := hD.lt
  have HD := Lib.hid hD
  clear hst hD
  have hmm := @run_makeMap Tryz.prog
  refine calls_of_wp_marks Tryz.func29 rfl ?_; simp only [Tryz.ntmps29, List.size_toArray, List.length_cons, List.length_nil, Nat.reduceAdd, Nat.reduceSub, Array.replicate_succ, Array.replicate_zero, List.push_toArray, List.append_toArray, List.nil_append, List.cons_append]
  go_upto_region 2 with fail
  refine wp_name (fun W1 => V1At W1 W.heap.size (.pointer (some ⟨db, 0, none⟩)) ∧ WorthL st W1 (W.heap.size + 1) [] ∧ V1At W1 (W.heap.size + 1 + 1) (.map (some (W.heap.size + 1))) ∧ Below W.heap.size W W1 ∧ W.heap.size + 1 + 1 + 1 ≤ W1.heap.size) ⟨(by (repeat' refine And.intro ?_ ?_) <;> (repeat (first | (with_reducible assumption) | (simp; done) | (with_reducible refine cell_drew_of ?_) | (with_reducible refine cell_drewN_of ?_) | (with_reducible refine cell_below_of (by with_reducible assumption) ?_) | ((with_reducible refine cell_new_of ?_ ?_) <;> (first | (with_reducible rfl) | (simp; done))) | ((with_reducible refine fro_new_of ?_) <;> (first | (with_reducible rfl) | (simp; done))) | (with_reducible refine cell_alloc_of _ ?_) | (with_reducible refine cell_set_of _ (by (first | exact Nat.le_refl _ | omega | (simp; done) | (simp; omega))) ?_) | (with_reducible refine fro_drew_of ?_) | (with_reducible refine fro_drewN_of ?_) | (with_reducible refine fro_below_of (by with_reducible assumption) (by (first | exact Nat.le_refl _ | omega | (simp; done) | (simp; omega))) ?_) | (with_reducible refine fro_alloc_of _ (by (first | exact Nat.le_refl _ | omega | (simp; done) | (simp; omega))) ?_) | (with_reducible refine fro_set_of _ ?_)))), ?_, (by (repeat' refine And.intro ?_ ?_) <;> (repeat (first | (with_reducible assumption) | (simp; done) | (with_reducible refine cell_drew_of ?_) | (with_reducible refine cell_drewN_of ?_) | (with_reducible refine cell_below_of (by with_reducible assumption) ?_) | ((with_reducible refine cell_new_of ?_ ?_) <;> (first | (with_reducible rfl) | (simp; done))) | ((with_reducible refine fro_new_of ?_) <;> (first | (with_reducible rfl) | (simp; done))) | (with_reducible refine cell_alloc_of _ ?_) | (with_reducible refine cell_set_of _ (by (first | exact Nat.le_refl _ | omega | (simp; done) | (simp; omega))) ?_) | (with_reducible refine fro_drew_of ?_) | (with_reducible refine fro_drewN_of ?_) | (with_reducible refine fro_below_of (by with_reducible assumption) (by (first | exact Nat.le_refl _ | omega | (simp; done) | (simp; omega))) ?_) | (with_reducible refine fro_alloc_of _ (by (first | exact Nat.le_refl _ | omega | (simp; done) | (simp; omega))) ?_) | (with_reducible refine fro_set_of _ ?_)))), (by repeat (first | (with_reducible exact Below.refl _ _) | (with_reducible refine Below.drew ?_) | (with_reducible refine below_drewN ?_ _) | ((with_reducible refine below_alloc ?_ ?_ _); · (first | exact Nat.le_refl _ | omega | (simp; done) | (simp; omega) | (simp at *; omega))) | ((with_reducible refine below_set ?_ ?_ _); · (first | exact Nat.le_refl _ | omega | (simp; done) | (simp; omega) | (simp at *; omega))) | ((with_reducible refine below_via (by with_reducible assumption) ?_ ?_); · (first | exact Nat.le_refl _ | omega | (simp; done) | (simp; omega) | (simp at *; omega))))), by simp⟩ ?_
  · have h := WorthAt.made (W.alloc (.cells #[.pointer (some ⟨db, 0, none⟩)] 82))
    rw [World.size_alloc] at h
    exact ⟨_, h.same (Below.heap_alloc _ _ _ (by simp)), fun _ => rfl⟩
  rintro W1 ⟨h1, h2, h3, h4, hW1⟩
  have HD1 := Lib.hid (HD.out.later h4)
  have c0 := HD1.out.c0
  have c1 := HD1.out.c1
  have c2 := HD1.out.c2
  have c3 := HD1.out.c3
  have v0 := h1.1
  have H1 := Lib.hid (And.intro h1 (And.intro h2 (And.intro h3 h4)))
  clear h1 h2 h3 h4
  go_wp2_with fail
  refine (within_any st.all _).mono ?_
  rintro e w2 ⟨rfl, hbag, hsz, hb2⟩
  have hs2 : W1.heap.size + 1 ≤ w2.heap.size := by omega
  have H2 : Hid (V1At w2 W.heap.size (.pointer (some ⟨db, 0, none⟩)) ∧ WorthL st w2 (W.heap.size + 1) [] ∧ V1At w2 (W.heap.size + 1 + 1) (.map (some (W.heap.size + 1))) ∧ Below W.heap.size W w2) := Lib.hid (by
    obtain ⟨h1, h2, h3, h4⟩ := H1.out
    exact ⟨h1.later hb2, h2.same (hb2.block _ h2.lt), h3.later hb2, h4.trans (hb2.mono (by omega))⟩)
  clear hsz hb2 c0 c1 c2 c3 v0
  go_wp2_with fail
  refine wp_within st.all (fun k _ => St.all_bd HO.out k) W1.heap.size rfl rfl
    (fun pre Wx => V1At Wx W.heap.size (.pointer (some ⟨db, 0, none⟩)) ∧ WorthL st Wx (W.heap.size + 1) pre ∧ V1At Wx (W.heap.size + 1 + 1) (.map (some (W.heap.size + 1))) ∧ BagC Wx W1.heap.size st.all ∧ Below W.heap.size W Wx ∧ w2.heap.size ≤ Wx.heap.size)
    (fun _ _ _ => False)
    (fun s A C ⟨h1, h2, h3, h6, h7, h8⟩ hb => ⟨h1.same (hb.block _ (by omega)), h2.same (hb.block _ (by omega)), h3.same (hb.block _ (by omega)), h6.same (hb.block _ (by omega)), h7.trans (hb.mono (by omega)), Nat.le_trans h8 hb.size⟩)
    (fun _ _ _ _ h _ => h) (fun _ _ h => h.2.2.2.1) ⟨H2.out.1, H2.out.2.1, H2.out.2.2.1, hbag, H2.out.2.2.2, Nat.le_refl _⟩
    ?fr ?assign ?body ?done ?stop
  case assign =>
    intro l pre x Wr K hi hK
    have HK := Lib.hid hK
    clear hK hi
    gi_wp2
    obtain ⟨Bx, hBx⟩ : ∃ Bx, Bx = Wr.heap.size := ⟨_, rfl⟩
    rw [← hBx]
    refine HK.out Bx _ hBx ?_ ?_
    · exact (by repeat (first | (with_reducible exact Below.refl _ _) | (with_reducible refine Below.drew ?_) | (with_reducible refine below_drewN ?_ _) | ((with_reducible refine below_alloc ?_ ?_ _); · (first | exact Nat.le_refl _ | omega | (simp; done) | (simp; omega) | (simp at *; omega))) | ((with_reducible refine below_set ?_ ?_ _); · (first | exact Nat.le_refl _ | omega | (simp; done) | (simp; omega) | (simp at *; omega))) | ((with_reducible refine below_via (by with_reducible assumption) ?_ ?_); · (first | exact Nat.le_refl _ | omega | (simp; done) | (simp; omega) | (simp at *; omega)))))
    subst hBx
    refine at4' ?_ ?_ ?_ ?_ <;> (repeat (first | (with_reducible assumption) | (simp; done) | (with_reducible refine cell_drew_of ?_) | (with_reducible refine cell_drewN_of ?_) | (with_reducible refine cell_below_of (by with_reducible assumption) ?_) | ((with_reducible refine cell_new_of ?_ ?_) <;> (first | (with_reducible rfl) | (simp; done))) | ((with_reducible refine fro_new_of ?_) <;> (first | (with_reducible rfl) | (simp; done))) | (with_reducible refine cell_alloc_of _ ?_) | (with_reducible refine cell_set_of _ (by (first | exact Nat.le_refl _ | omega | (simp; done) | (simp; omega))) ?_) | (with_reducible refine fro_drew_of ?_) | (with_reducible refine fro_drewN_of ?_) | (with_reducible refine fro_below_of (by with_reducible assumption) (by (first | exact Nat.le_refl _ | omega | (simp; done) | (simp; omega))) ?_) | (with_reducible refine fro_alloc_of _ (by (first | exact Nat.le_refl _ | omega | (simp; done) | (simp; omega))) ?_) | (with_reducible refine fro_set_of _ ?_)))
  case stop => exact fun _ _ _ _ _ _ h => h.elim
  case body =>
    rintro l pre y Bx Wr ⟨h1, h2, h3, h6, h7, h8⟩ hBx hy hpre hlt
    have HYA := Lib.hid (mem_bagsOf.1 (hpre.subset (by simp : y ∈ pre ++ [y])))
    have hlen : pre.length + 1 ≤ 2401 := by
      have e1 := hpre.length_le
      have e2 := bagsOf_length (left := st.all) (fun k hk => by have h2 := St.all_bd HO.out k; omega)
      simp only [List.length_append, List.length_cons, List.length_nil] at e1
      omega
    have H := Lib.hid (And.intro h1 (And.intro h2 (And.intro h3 (And.intro h6 (And.intro h7 h8)))))
    have HY := Lib.hid hy
    have v0 := h1.1
    have y0 := hy 0 (by omega)
    have y1 := hy 1 (by omega)
    have y2 := hy 2 (by omega)
    have y3 := hy 3 (by omega)
    simp only [Bag.at] at y0 y1 y2 y3
    have hbb := St.brings_bd HO.out HYA.out
    have HDr := Lib.hid (HD.out.later h7)
    clear h1 h2 h3 h6 h7 h8 hy hpre
    gi_wp2_with fail
    refine ⟨trivial, rfl, CallsIn.inRound _ (callsIn_wide.2 ((brings_any st HO.out y db _ HDr.out HYA.out).mono ?_))⟩
    rintro e w3 ⟨rfl, hb3⟩
    obtain ⟨h1, h2, h3, h6, h7, h8⟩ := H.out
    have h1 := h1.later hb3
    have h2 := h2.same (hb3.block _ h2.lt)
    have h3 := h3.later hb3
    have h6 := h6.same (hb3.block _ h6.lt)
    have h7 := h7.trans (hb3.mono (by omega))
    have h8 := Nat.le_trans h8 hb3.size
    have hy3 := HY.out.same (hb3.block _ HY.out.lt)
    have hs3 := hb3.size
    cases hz : decide (0 < st.brings y) with
    | false =>
      have hz0 : st.brings y = 0 := by simp only [decide_eq_false_iff_not] at hz; omega
      have H3 := Lib.hid (And.intro h1 (And.intro (h2.zero hz0) (And.intro h3 (And.intro h6 (And.intro h7 h8)))))
      have HB3 := Lib.hid hb3
      clear h1 h2 h3 h6 h7 h8 hy3 hz0 v0 y0 y1 y2 y3
      gi_wp2_with fail
      exact ⟨.below HB3.out, H3.out⟩
    | true =>
      obtain ⟨f, hwf, hff⟩ := h2
      obtain ⟨Wp, hrun, hwp, hgr⟩ := hwf.put (St.in_sml HO.out HYA.out) (v := st.brings y) (by omega) (by omega)
      have HP := Lib.hid hwp
      have HF := Lib.hid hff
      have HGR := Lib.hid hgr
      have hm0 := h3.1
      have hne : ∀ {c o v}, w3.cell? ⟨c, o, none⟩ = some v → c ≠ W.heap.size + 1 := fun h => WorthL.ne ⟨f, hwf, hff⟩ h
      have H3 := Lib.hid (And.intro h1 (And.intro h3 (And.intro h6 (And.intro h7 h8))))
      have HNE := Lib.hid (And.intro (hne h1.1) (And.intro (hne h3.1) (hne (h6 0 (by omega)))))
      have HB3 := Lib.hid hb3
      have y0 := hy3 0 (by omega)
      have y1 := hy3 1 (by omega)
      have y2 := hy3 2 (by omega)
      have y3 := hy3 3 (by omega)
      simp only [Bag.at] at y0 y1 y2 y3
      clear h1 h3 h6 h7 h8 hy3 v0 hwf hff hwp hgr hne
      gi_wp2_with fail
      obtain ⟨h1, h3, h6, h7, h8⟩ := H3.out
      have hkp : ∀ i, i < w3.heap.size → i ≠ W.heap.size + 1 → Wp.heap[i]? = w3.heap[i]? := fun i hi hn => HGR.out.block i hi (by simpa using hn)
      refine (show _ ∧ _ from ⟨(NewFrom.below HB3.out).trans ⟨HGR.out.size, fun i hi hl => hkp i hl (by omega)⟩, h1.same (hkp _ h1.lt HNE.out.1), ⟨_, by rw [List.length_append, List.length_singleton]; exact HP.out, fun z => ?_⟩, h3.same (hkp _ h3.lt HNE.out.2.1), h6.same (hkp _ h6.lt HNE.out.2.2), h7.grown HGR.out (by have := h7.size; omega) (fun i e => by injection e with e; omega), Nat.le_trans h8 HGR.out.size⟩)
      rw [HF.out z]
      by_cases e : z = y
      · subst e; simp
      · simp [e]
  case done =>
    rintro D Wd hD ⟨h1, h2, h3, h6, h7, h8⟩ hdef
    have HDd := Lib.hid (HD.out.later h7)
    have HDef := Lib.hid hdef
    obtain ⟨f, hwf, hff⟩ := h2
    have hwl : (bagsOf st.all).length ≤ 2401 := bagsOf_length (fun k hk => by have h2 := St.all_bd HO.out k; omega)
    have HW := Lib.hid (show ∃ h, WorthAt Wd (W.heap.size + 1) 2401 h ∧ ∀ x, x.in_ st.all → h x = st.brings x from ⟨f, hwf.mono hwl, fun x hx => by rw [hff x, if_pos (mem_bagsOf.2 hx)]⟩)
    have H := Lib.hid (And.intro h1 (And.intro h3 (And.intro h7 h8)))
    clear h1 h3 h6 h7 h8 hdef hwf hff hwl
    go_upto_region 11 with fail
    refine wp_name (fun W3 => ChosenAt W3 Wd.heap.size 0 (fun _ _ => none) ∧ V1At W3 (Wd.heap.size + 1) (.map (some Wd.heap.size)) ∧ V1At W3 (Wd.heap.size + 1 + 1) (.func (.func 58) #[] #[.pointer (some ⟨Wd.heap.size + 1, 0, none⟩), .pointer (some ⟨W.heap.size + 1 + 1, 0, none⟩), .pointer (some ⟨Wd.heap.size + 1 + 1, 0, none⟩)]) ∧ Below Wd.heap.size Wd W3 ∧ Wd.heap.size + 1 + 1 + 1 ≤ W3.heap.size) ⟨?_, (by (repeat' refine And.intro ?_ ?_) <;> (repeat (first | (with_reducible assumption) | (simp; done) | (with_reducible refine cell_drew_of ?_) | (with_reducible refine cell_drewN_of ?_) | (with_reducible refine cell_below_of (by with_reducible assumption) ?_) | ((with_reducible refine cell_new_of ?_ ?_) <;> (first | (with_reducible rfl) | (simp; done))) | ((with_reducible refine fro_new_of ?_) <;> (first | (with_reducible rfl) | (simp; done))) | (with_reducible refine cell_alloc_of _ ?_) | (with_reducible refine cell_set_of _ (by (first | exact Nat.le_refl _ | omega | (simp; done) | (simp; omega))) ?_) | (with_reducible refine fro_drew_of ?_) | (with_reducible refine fro_drewN_of ?_) | (with_reducible refine fro_below_of (by with_reducible assumption) (by (first | exact Nat.le_refl _ | omega | (simp; done) | (simp; omega))) ?_) | (with_reducible refine fro_alloc_of _ (by (first | exact Nat.le_refl _ | omega | (simp; done) | (simp; omega))) ?_) | (with_reducible refine fro_set_of _ ?_)))), (by (repeat' refine And.intro ?_ ?_) <;> (repeat (first | (with_reducible assumption) | (simp; done) | (with_reducible refine cell_drew_of ?_) | (with_reducible refine cell_drewN_of ?_) | (with_reducible refine cell_below_of (by with_reducible assumption) ?_) | ((with_reducible refine cell_new_of ?_ ?_) <;> (first | (with_reducible rfl) | (simp; done))) | ((with_reducible refine fro_new_of ?_) <;> (first | (with_reducible rfl) | (simp; done))) | (with_reducible refine cell_alloc_of _ ?_) | (with_reducible refine cell_set_of _ (by (first | exact Nat.le_refl _ | omega | (simp; done) | (simp; omega))) ?_) | (with_reducible refine fro_drew_of ?_) | (with_reducible refine fro_drewN_of ?_) | (with_reducible refine fro_below_of (by with_reducible assumption) (by (first | exact Nat.le_refl _ | omega | (simp; done) | (simp; omega))) ?_) | (with_reducible refine fro_alloc_of _ (by (first | exact Nat.le_refl _ | omega | (simp; done) | (simp; omega))) ?_) | (with_reducible refine fro_set_of _ ?_)))), (by repeat (first | (with_reducible exact Below.refl _ _) | (with_reducible refine Below.drew ?_) | (with_reducible refine below_drewN ?_ _) | ((with_reducible refine below_alloc ?_ ?_ _); · (first | exact Nat.le_refl _ | omega | (simp; done) | (simp; omega) | (simp at *; omega))) | ((with_reducible refine below_set ?_ ?_ _); · (first | exact Nat.le_refl _ | omega | (simp; done) | (simp; omega) | (simp at *; omega))) | ((with_reducible refine below_via (by with_reducible assumption) ?_ ?_); · (first | exact Nat.le_refl _ | omega | (simp; done) | (simp; omega) | (simp at *; omega))))), by simp⟩ ?_
    · have h := ChosenAt.made Wd
      refine h.same ?_
      rw [Below.heap_alloc _ _ _ (by simp; omega), Below.heap_alloc _ _ _ (by simp)]
    rintro W3 ⟨k1, k2, k3, k4, hW3⟩
    obtain ⟨h1, h3, h7, h8⟩ := H.out
    have HDef3 := Lib.hid ((k4.block D (Array.getElem?_eq_some_iff.1 HDef.out).1).trans HDef.out)
    have HD3 := Lib.hid (HDd.out.later k4)
    have h7' := Lib.hid (h7.trans (k4.mono (by omega)))
    have v0 := (h1.later k4).1
    have HSK := Lib.hid (show SeekAt st W3 Wd.heap.size (W.heap.size + 1) (Wd.heap.size + 1) (W.heap.size + 1 + 1) (Wd.heap.size + 1 + 1) 2401 from ⟨k2.1, (h3.later k4).1, k3.1, by obtain ⟨h, e1, e2⟩ := HW.out; exact ⟨h, e1.same (k4.block _ e1.lt), e2⟩⟩)
    have HCM := Lib.hid k1
    have c0 := HD3.out.c0
    have c1 := HD3.out.c1
    have c2 := HD3.out.c2
    have c3 := HD3.out.c3
    have c4 := HD3.out.lots
    have HWl := Lib.hid (show W.heap.size + 1 < Wd.heap.size by have := HW.out.choose_spec.1.lt; exact this)
    have hl0 := HO.out.l0
    have hl3 := HO.out.l3
    obtain ⟨k, hk⟩ := Int.eq_ofNat_of_zero_le hl0
    have HK := Lib.hid hk
    clear k1 k2 k3 h1 h3 h7 h8 k4 hdl
    rw [hk] at c4 hl0 hl3
    clear hk
    go_region_held3 (fun w' => w'.cell? ⟨W.heap.size, 0, none⟩ = some (.pointer (some ⟨db, 0, none⟩)) ∧ (w'.cell? ⟨db, 3, none⟩ = some (.int .i64 st.all.a) ∧ w'.cell? ⟨db, 4, none⟩ = some (.int .i64 st.all.b) ∧ w'.cell? ⟨db, 5, none⟩ = some (.int .i64 st.all.c) ∧ w'.cell? ⟨db, 6, none⟩ = some (.int .i64 st.all.d)) ∧ w'.cell? ⟨db, 2, none⟩ = some (.int .i64 (k : Int))) ((go_split_ands; (repeat' refine And.intro ?_ ?_) <;> (repeat (first | (with_reducible assumption) | (simp; done) | (with_reducible refine cell_drew_of ?_) | (with_reducible refine cell_drewN_of ?_) | (with_reducible refine cell_below_of (by with_reducible assumption) ?_) | ((with_reducible refine cell_new_of ?_ ?_) <;> (first | (with_reducible rfl) | (simp; done))) | ((with_reducible refine fro_new_of ?_) <;> (first | (with_reducible rfl) | (simp; done))) | (with_reducible refine cell_alloc_of _ ?_) | (with_reducible refine cell_set_of _ (by (first | exact Nat.le_refl _ | omega | (simp; done) | (simp; omega))) ?_) | (with_reducible refine fro_drew_of ?_) | (with_reducible refine fro_drewN_of ?_) | (with_reducible refine fro_below_of (by with_reducible assumption) (by (first | exact Nat.le_refl _ | omega | (simp; done) | (simp; omega))) ?_) | (with_reducible refine fro_alloc_of _ (by (first | exact Nat.le_refl _ | omega | (simp; done) | (simp; omega))) ?_) | (with_reducible refine fro_set_of _ ?_))))) (fail)
    clear c0 c1 c2 c3 c4 v0
    go_upto_region 12 with fail
    refine wp_name (fun W4 => C5At W4 W3.heap.size st.all (k : Int) ∧ Below W3.heap.size W3 W4 ∧ W3.heap.size + 1 ≤ W4.heap.size) ⟨(by (repeat' refine And.intro ?_ ?_) <;> (repeat (first | (with_reducible assumption) | (simp; done) | (with_reducible refine cell_drew_of ?_) | (with_reducible refine cell_drewN_of ?_) | (with_reducible refine cell_below_of (by with_reducible assumption) ?_) | ((with_reducible refine cell_new_of ?_ ?_) <;> (first | (with_reducible rfl) | (simp; done))) | ((with_reducible refine fro_new_of ?_) <;> (first | (with_reducible rfl) | (simp; done))) | (with_reducible refine cell_alloc_of _ ?_) | (with_reducible refine cell_set_of _ (by (first | exact Nat.le_refl _ | omega | (simp; done) | (simp; omega))) ?_) | (with_reducible refine fro_drew_of ?_) | (with_reducible refine fro_drewN_of ?_) | (with_reducible refine fro_below_of (by with_reducible assumption) (by (first | exact Nat.le_refl _ | omega | (simp; done) | (simp; omega))) ?_) | (with_reducible refine fro_alloc_of _ (by (first | exact Nat.le_refl _ | omega | (simp; done) | (simp; omega))) ?_) | (with_reducible refine fro_set_of _ ?_)))), (by repeat (first | (with_reducible exact Below.refl _ _) | (with_reducible refine Below.drew ?_) | (with_reducible refine below_drewN ?_ _) | ((with_reducible refine below_alloc ?_ ?_ _); · (first | exact Nat.le_refl _ | omega | (simp; done) | (simp; omega) | (simp at *; omega))) | ((with_reducible refine below_set ?_ ?_ _); · (first | exact Nat.le_refl _ | omega | (simp; done) | (simp; omega) | (simp at *; omega))) | ((with_reducible refine below_via (by with_reducible assumption) ?_ ?_); · (first | exact Nat.le_refl _ | omega | (simp; done) | (simp; omega) | (simp at *; omega))))), by simp⟩ ?_
    rintro W4 ⟨hat, hb4, hW4⟩
    have hbk := Lib.hid (show st.all.in_ st.all from mem_bagsOf.1 (mem_bagsOf.2 ⟨⟨(St.all_bd HO.out 0).1, Int.le_refl _⟩, ⟨(St.all_bd HO.out 1).1, Int.le_refl _⟩, ⟨(St.all_bd HO.out 2).1, Int.le_refl _⟩, (St.all_bd HO.out 3).1, Int.le_refl _⟩))
    have HS4 := Lib.hid (HSK.out.later hb4)
    have HC4 := Lib.hid (HCM.out.same (hb4.block _ HCM.out.lt))
    have hne : W.heap.size + 1 ≠ Wd.heap.size := by have := HWl.out; omega
    have HNE := Lib.hid hne
    obtain ⟨⟨a0, a1, a2, a3, a4⟩, _⟩ := id hat
    have f0 := HS4.out.f
    have hcf : ∀ args w, (callFunc 58 args).run Tryz.prog w = .ok (.enter 58 args) w := enters_of Tryz.func58 (by kernel_rfl) rfl
    have hk3 : k ≤ 3 := by omega
    have HU := Lib.hid (updN_le k hk3)
    clear hne
    go_wp2_with fail
    refine (choose_any st HO.out k hk3 st.all Wd.heap.size (W.heap.size + 1) (Wd.heap.size + 1) (W.heap.size + 1 + 1) (Wd.heap.size + 1 + 1) 2401 0 (fun _ _ => none) _ hbk.out (by have := HU.out; omega) HS4.out HNE.out HC4.out (Good.none st)).mono ?_
    rintro e W5 ⟨rfl, hso⟩
    have hg5 := hso.only
    have HS5 := Lib.hid (HS4.out.only HC4.out HNE.out hg5)
    have hmbl := HC4.out.lt
    have hkp5 : ∀ i, i < W4.heap.size → i ≠ Wd.heap.size → W5.heap[i]? = W4.heap[i]? := fun i hi hn => hg5.block i hi (by simpa using hn)
    have hat5 := hat.same (hkp5 _ hat.lt (by omega))
    have HM5 := Lib.hid (show MapSt st W5 Wd.heap.size 6000000 from (show MapSt st W5 Wd.heap.size (0 + updN k) from hso.map).mono (by have := HU.out; omega))
    have hb5 : Below Wd.heap.size W4 W5 := (Below.refl _ _).grown hg5 (by omega) (fun i e => by injection e with e; omega)
    have hs5 := hg5.size
    have f5 := HS5.out.f
    obtain ⟨⟨d0, d1, d2, d3, d4⟩, _⟩ := id hat5
    clear a0 a1 a2 a3 a4 f0 hat hso hkp5
    go_wp2_with fail
    obtain ⟨n5, g5, hn5, hcm5, hgd5⟩ := HM5.out
    refine (choose_any st HO.out k hk3 st.all Wd.heap.size (W.heap.size + 1) (Wd.heap.size + 1) (W.heap.size + 1 + 1) (Wd.heap.size + 1 + 1) 2401 n5 g5 _ hbk.out (by have := HU.out; omega) HS5.out HNE.out hcm5 hgd5).mono ?_
    rintro e W6 ⟨rfl, hso⟩
    have hg6 := hso.only
    have HS6 := Lib.hid (HS5.out.only hcm5 HNE.out hg6)
    have hkp6 : ∀ i, i < W5.heap.size → i ≠ Wd.heap.size → W6.heap[i]? = W5.heap[i]? := fun i hi hn => hg6.block i hi (by simpa using hn)
    have hat6 := hat5.same (hkp6 _ hat5.lt (by omega))
    have HM6 := Lib.hid (show MapSt st W6 Wd.heap.size 12000000 from (show MapSt st W6 Wd.heap.size (n5 + updN k) from hso.map).mono (by have := HU.out; omega))
    have hb6 : Below Wd.heap.size W5 W6 := (Below.refl _ _).grown hg6 (by omega) (fun i e => by injection e with e; omega)
    have hs6 := hg6.size
    have HB6 := Lib.hid (show Below Wd.heap.size W3 W6 from (((show Below Wd.heap.size W3 W4 from hb4.mono (by omega)).trans hb5).trans hb6))
    clear d0 d1 d2 d3 d4 f5 hat5 hso hkp6 hn5 hcm5 hgd5 hg5 hg6 hb5 hb6
    go_wp2_with fail
    have hbn : Below W6.heap.size W6 (W6.alloc (.cells #[.int .i64 (st.choose k st.all).1.a, .int .i64 (st.choose k st.all).1.b, .int .i64 (st.choose k st.all).1.c, .int .i64 (st.choose k st.all).1.d, .int .i64 (st.choose k st.all).2] 140)) := (Below.refl _ _).alloc (Nat.le_refl _) _
    have hc7 : C5At (W6.alloc (.cells #[.int .i64 (st.choose k st.all).1.a, .int .i64 (st.choose k st.all).1.b, .int .i64 (st.choose k st.all).1.c, .int .i64 (st.choose k st.all).1.d, .int .i64 (st.choose k st.all).2] 140)) W6.heap.size (st.choose k st.all).1 (st.choose k st.all).2 := (by (repeat' refine And.intro ?_ ?_) <;> (repeat (first | (with_reducible assumption) | (simp; done) | (with_reducible refine cell_drew_of ?_) | (with_reducible refine cell_drewN_of ?_) | (with_reducible refine cell_below_of (by with_reducible assumption) ?_) | ((with_reducible refine cell_new_of ?_ ?_) <;> (first | (with_reducible rfl) | (simp; done))) | ((with_reducible refine fro_new_of ?_) <;> (first | (with_reducible rfl) | (simp; done))) | (with_reducible refine cell_alloc_of _ ?_) | (with_reducible refine cell_set_of _ (by (first | exact Nat.le_refl _ | omega | (simp; done) | (simp; omega))) ?_) | (with_reducible refine fro_drew_of ?_) | (with_reducible refine fro_drewN_of ?_) | (with_reducible refine fro_below_of (by with_reducible assumption) (by (first | exact Nat.le_refl _ | omega | (simp; done) | (simp; omega))) ?_) | (with_reducible refine fro_alloc_of _ (by (first | exact Nat.le_refl _ | omega | (simp; done) | (simp; omega))) ?_) | (with_reducible refine fro_set_of _ ?_))))
    generalize (W6.alloc (.cells #[.int .i64 (st.choose k st.all).1.a, .int .i64 (st.choose k st.all).1.b, .int .i64 (st.choose k st.all).1.c, .int .i64 (st.choose k st.all).1.d, .int .i64 (st.choose k st.all).2] 140)) = W7 at hbn hc7 ⊢
    have hs7 := hbn.size
    have HAT7 := Lib.hid (hat6.later hbn)
    have HS7 := Lib.hid (HS6.out.later hbn)
    have HM7 := Lib.hid (HM6.out.same (hbn.block _ (by have := HM6.out.choose_spec.choose_spec.2.1.lt; exact this)))
    have HB7 := Lib.hid (show Below Wd.heap.size W3 W7 from HB6.out.trans (hbn.mono (by omega)))
    have HC7 := Lib.hid hc7
    obtain ⟨i0, hi, hz0, hz1, hz2⟩ := info_parts infoBag
    clear hat6 hc7 hbn
    go_loopw [9, 12] (fun v c wr => ∃ (j : Nat) (left : Bag) (L : List Bag) (cb : Nat), c = .pointer (some ⟨cb, 0, none⟩) ∧ Hid (st.planN k st.all = L ++ st.planN j left) ∧ L.length + j ≤ 3 ∧ Hid (left.in_ st.all) ∧ Hid (C5At wr W3.heap.size left (j : Int)) ∧ Hid (C5At wr cb (st.choose j left).1 (st.choose j left).2) ∧ W4.heap.size ≤ cb ∧ Hid (v.ownBlock ≠ some cb) ∧
        Hid (wr.ownsRow W4.heap.size 89 4 v L.length (bagCells L)) ∧ Hid (SeekAt st wr Wd.heap.size (W.heap.size + 1) (Wd.heap.size + 1) (W.heap.size + 1 + 1) (Wd.heap.size + 1 + 1) 2401) ∧ Hid (MapSt st wr Wd.heap.size (12000000 + L.length * 6000000)) ∧ Hid (Below Wd.heap.size W3 wr) ∧ W7.heap.size ≤ wr.heap.size)
      (fun _ _ wr => match wr.cell? ⟨W3.heap.size, 4, none⟩ with | some (.int _ n) => n.toNat | _ => 0)
    case atStart =>
      exact ⟨k, st.all, [], W6.heap.size, rfl, Lib.hid rfl, by simpa using hk3, hbk, HAT7, HC7, by omega, Lib.hid (by simp [Value.ownBlock]), Lib.hid (World.ownsRow_nil _ _ _ _), HS7, Lib.hid (HM7.out.mono (by simp)), HB7, Nat.le_refl _⟩
    case round =>
      obtain ⟨j, left, L, cb, rfl, hpl, hlj, hlf, hat, hcc, hcb, hob, hrow, hsk, hmp, hbw, hsz⟩ := hrel
      obtain ⟨⟨p0, p1, p2, p3, p4⟩, _⟩ := hcc.out
      have hbd := St.choose_bd HO.out j left hlf.out
      cases hcmp : decide (0 < (st.choose j left).2) with
      | false =>
        have he : Hid (st.planN k st.all = L) := Lib.hid (by
          rw [hpl.out]
          cases j with
          | zero => simp [St.planN]
          | succ j => rw [St.planN_succ, hcmp]; simp)
        have hok := hrow.out
        obtain ⟨A, cc, rfl, hbr, hcl⟩ := BagRow.of_owns hok rfl
        have HBR := Lib.hid hbr
        have hDl : D < Wd.heap.size := (Array.getElem?_eq_some_iff.1 HDef.out).1
        have HDr := Lib.hid ((hbw.out.block D hDl).trans HDef3.out)
        have hWs := h7'.out.size
        clear hok hbr
        go_wp2_with fail
        refine ⟨by simp, .inl ⟨_, _, rfl, run_takeDeferred HDr.out, ?_⟩⟩
        refine ⟨.tuple #[.slice A L.length cc, .int .i64 (st.choose k st.all).2], ?_, (h7'.out.trans (hbw.out.mono (by omega))).trans (below_put _ _ _ _ (by omega) (by omega)), A, cc, ?_, ?_, ?_⟩
        · simp [results, Tryz.results29, go_sem]
        · rw [HK.out, Int.toNat_natCast, he.out]
        · rw [HK.out, Int.toNat_natCast, he.out]
          have := HBR.out.put HDr.out (o := .deferred none)
          rw [show (wr.putObj D (.deferred none)).heap.size = wr.heap.size by simp]
          exact this
        · rw [HK.out, Int.toNat_natCast, he.out]
          exact hcl
      | true =>
        obtain ⟨j, rfl⟩ : ∃ i, j = i + 1 := by
          cases j with
          | zero => simp [St.choose] at hcmp
          | succ i => exact ⟨i, rfl⟩
        have he : Hid (st.planN k st.all = (L ++ [(st.choose (j + 1) left).1]) ++ st.planN j (left.less (st.choose (j + 1) left).1)) := Lib.hid (by rw [hpl.out, St.planN_succ, hcmp]; simp)
        have hci := Lib.hid (St.choOf_bd HO.out j hlf.out (l := bagsOf left) (fun b hb => mem_bagsOf.1 hb)).2
        rw [← St.choose_succ] at hci
        generalize hcx : st.choose (j + 1) left = c at he hci hcmp hbd p0 p1 p2 p3 p4 hcc
        have HCX := Lib.hid hcx
        clear hcx
        have hv1 := hrow.out.lt
        go_wp2_with (at_builtin; refine wpList_append_own _ rfl (.tmp 53) (.tmp 56) 85 rfl W4.heap.size 89 i0 (.agg #[.int .i64 0, .int .i64 0, .int .i64 0, .int .i64 0]) 4 32 bags_under hi hz0 hz1 hz2 rfl (by decide) u9 L.length (bagCells L) rfl (hrow.out.alloc _) ⟨wr.heap.size, 0, none⟩ 1 1 [.int .i64 c.1.a, .int .i64 c.1.b, .int .i64 c.1.c, .int .i64 c.1.d] rfl rfl ?c1 ?c2 ?c3 ?c4 ?c5 ?_)
        case c1 => exact new_cells (cs := [.int .i64 c.1.a, .int .i64 c.1.b, .int .i64 c.1.c, .int .i64 c.1.d])
        case c2 => intro u hu; simp only [List.mem_cons, List.not_mem_nil, or_false] at hu; rcases hu with rfl | rfl | rfl | rfl <;> rfl
        case c3 => unfold maxLen; omega
        case c4 => omega
        case c5 => simp; omega
        intro v' w1 hown' hgr _
        have hkw : ∀ i, i < wr.heap.size → u9.ownBlock ≠ some i → w1.heap[i]? = wr.heap[i]? := fun i hi hn => (hgr.block i (by simp; omega) (fun e => hn e.symm)).trans (Below.heap_alloc _ _ _ hi)
        have hlow : ∀ i, i < W4.heap.size → w1.heap[i]? = wr.heap[i]? := fun i hi => hkw i (by omega) (fun e => by have := (hv1 i e).1; omega)
        have hs1 := hgr.size
        simp only [World.size_alloc] at hs1
        have hat1 := hat.out.same (hlow _ (by omega))
        have hcc1 := hcc.out.same (hkw cb hcc.out.lt hob.out)
        have hv2 := hown'.lt
        have HOWN := Lib.hid hown'
        have HB1 : Hid (Below Wd.heap.size W3 w1) := Lib.hid (hbw.out.trans ⟨hgr.os, hgr.tape, hgr.output, by omega, fun i hi => hlow i (by omega)⟩)
        have hsl := hsk.out.lts
        have hwl := HWl.out
        have HSK1 := Lib.hid (hsk.out.same (hlow _ (by omega)) (hlow _ (by omega)) (hlow _ (by omega)) (hlow _ (by have := HWl.out; omega)))
        have HMP1 := Lib.hid (hmp.out.same (hlow _ (by omega)))
        have x0 := cell_regrown hat1.1.1
        have x1 := cell_regrown hat1.1.2.1
        have x2 := cell_regrown hat1.1.2.2.1
        have x3 := cell_regrown hat1.1.2.2.2.1
        have x4 := cell_regrown hat1.1.2.2.2.2
        have z0 := cell_regrown hcc1.1.1
        have z1 := cell_regrown hcc1.1.2.1
        have z2 := cell_regrown hcc1.1.2.2.1
        have z3 := cell_regrown hcc1.1.2.2.2.1
        have ej : IntKind.i64.wrap ((j : Int) + 1 - 1) = (j : Int) := by rw [Int.add_sub_cancel]; exact IntWalk.i64_in _ (by omega)
        have ej2 : IntKind.i64.wrap ((j : Int)) = (j : Int) := IntWalk.i64_in _ (by omega)
        have HA1 := Lib.hid hat1
        have HC1 := Lib.hid hcc1
        have hsx : Hid (∀ i, i < 4 → -1000 ≤ left.at i ∧ left.at i ≤ 1000) := Lib.hid (fun i _ => by have h1 := Bag.in_at hlf.out i; have h2 := St.all_bd HO.out i; omega)
        have hsy : Hid (∀ i, i < 4 → -1000 ≤ c.1.at i ∧ c.1.at i ≤ 1000) := Lib.hid (fun i _ => by have h1 := Bag.in_at (Bag.in_trans hci.out hlf.out) i; have h2 := St.all_bd HO.out i; omega)
        clear hown' hgr hat1 hcc1 p0 p1 p2 p3 p4 hrow hkw hlow
        go_wp2_with fail
        refine region_qbt 9 (by kernel_rfl) (by kernel_rfl) ?_
        simp only [List.take_succ_cons, List.take_zero, List.drop_succ_cons, List.drop_zero]
        repeat (first | go_big_quiet_step ((go_at_call 60; exact Calls.regrown_of (less_any left c.1 _ hsx.out hsy.out))) | quiet_step ((go_at_call 60; exact Calls.regrown_of (less_any left c.1 _ hsx.out hsy.out))))
        refine wpQuiet_nil ?_; intro wq hbq
        clear x0 x1 x2 x3 x4 z0 z1 z2 z3
        have hsq := hbq.size
        have haq := HA1.out.later hbq
        have hcq := HC1.out.later hbq
        have HAQ := Lib.hid haq
        have HCQ := Lib.hid hcq
        obtain ⟨⟨x0, x1, x2, x3, x4⟩, y0, y1, y2, y3, y4⟩ := haq
        go_upto_region 18 with fail
        show Code.wp _ _ _ _ (putC5 wq W3.heap.size (left.less c.1) (j : Int))
        have hph : ∀ i, i ≠ W3.heap.size → (putC5 wq W3.heap.size (left.less c.1) (j : Int)).heap[i]? = wq.heap[i]? := fun i hi => putC5_heap _ _ _ _ hi
        have hps : (putC5 wq W3.heap.size (left.less c.1) (j : Int)).heap.size = wq.heap.size := putC5_size _ _ _ _
        have hlq := (HSK1.out.later hbq).lts
        refine wp_name (fun W8 => C5At W8 W3.heap.size (left.less c.1) (j : Int) ∧ C5At W8 cb c.1 c.2 ∧ SeekAt st W8 Wd.heap.size (W.heap.size + 1) (Wd.heap.size + 1) (W.heap.size + 1 + 1) (Wd.heap.size + 1 + 1) 2401 ∧ MapSt st W8 Wd.heap.size (12000000 + L.length * 6000000) ∧
          W8.ownsRow W4.heap.size 89 4 v' (L.length + 1) (bagCells L ++ [.int .i64 c.1.a, .int .i64 c.1.b, .int .i64 c.1.c, .int .i64 c.1.d]) ∧ Below Wd.heap.size W3 W8 ∧ w1.heap.size ≤ W8.heap.size)
          ⟨putC5_at HAQ.out, HCQ.out.same (hph _ (by omega)), (HSK1.out.later hbq).same (hph _ (by omega)) (hph _ (by omega)) (hph _ (by omega)) (hph _ (by omega)), (HMP1.out.same (hbq.block _ (by omega))).same (hph _ (by omega)), ?_, ?_, by omega⟩ ?_
        · have h1 := HOWN.out.kept (grown_of_below 0 hbq) (by
            cases hv : v'.ownBlock with
            | none => exact .inl rfl
            | some i => exact .inr (by have := (hv2 i hv).1; intro e; injection e with e; omega))
          refine h1.kept (w' := putC5 wq W3.heap.size (left.less c.1) (j : Int)) (row := some W3.heap.size) ⟨rfl, rfl, rfl, by omega, fun i _ hi => hph i (fun e => hi (by rw [e]))⟩ (by
            cases hv : v'.ownBlock with
            | none => exact .inl rfl
            | some i => exact .inr (by have := (hv2 i hv).1; intro e; injection e with e; omega))
        · exact (HB1.out.trans (hbq.mono (by omega))).trans (putC5_below _ _ _ (by omega))
        clear hph x0 x1 x2 x3 x4 y0 y1 y2 y3 y4 hcq hbq
        rintro W8 ⟨k1, k2, k3, k4, k5, k6, k7⟩
        have K1 := Lib.hid k1
        have K3 := Lib.hid k3
        have K4 := Lib.hid k4
        have K5 := Lib.hid k5
        have K6 := Lib.hid k6
        obtain ⟨⟨c0, c1, c2, c3, c4⟩, _⟩ := k2
        obtain ⟨⟨a0, a1, a2, a3, a4⟩, _⟩ := k1
        have f0 := k3.f
        clear k3 k4 k5 k6
        go_upto_region 15 with fail
        have hll := Lib.hid (Bag.in_trans (Bag.less_in hci.out) hlf.out)
        refine wp_name (fun W9 => Below W8.heap.size W8 W9 ∧ C5At W9 W8.heap.size c.1 c.2) ⟨(by repeat (first | (with_reducible exact Below.refl _ _) | (with_reducible refine Below.drew ?_) | (with_reducible refine below_drewN ?_ _) | ((with_reducible refine below_alloc ?_ ?_ _); · (first | exact Nat.le_refl _ | omega | (simp; done) | (simp; omega) | (simp at *; omega))) | ((with_reducible refine below_set ?_ ?_ _); · (first | exact Nat.le_refl _ | omega | (simp; done) | (simp; omega) | (simp at *; omega))) | ((with_reducible refine below_via (by with_reducible assumption) ?_ ?_); · (first | exact Nat.le_refl _ | omega | (simp; done) | (simp; omega) | (simp at *; omega))))), (by (repeat' refine And.intro ?_ ?_) <;> (repeat (first | (with_reducible assumption) | (simp; done) | (with_reducible refine cell_drew_of ?_) | (with_reducible refine cell_drewN_of ?_) | (with_reducible refine cell_below_of (by with_reducible assumption) ?_) | ((with_reducible refine cell_new_of ?_ ?_) <;> (first | (with_reducible rfl) | (simp; done))) | ((with_reducible refine fro_new_of ?_) <;> (first | (with_reducible rfl) | (simp; done))) | (with_reducible refine cell_alloc_of _ ?_) | (with_reducible refine cell_set_of _ (by (first | exact Nat.le_refl _ | omega | (simp; done) | (simp; omega))) ?_) | (with_reducible refine fro_drew_of ?_) | (with_reducible refine fro_drewN_of ?_) | (with_reducible refine fro_below_of (by with_reducible assumption) (by (first | exact Nat.le_refl _ | omega | (simp; done) | (simp; omega))) ?_) | (with_reducible refine fro_alloc_of _ (by (first | exact Nat.le_refl _ | omega | (simp; done) | (simp; omega))) ?_) | (with_reducible refine fro_set_of _ ?_))))⟩ ?_
        rintro W9 ⟨k2, k3⟩
        have hs9 := k2.size
        have hn9 := k3.lt
        have KA9 := Lib.hid (K1.out.later k2)
        have KS9 := Lib.hid (K3.out.later k2)
        have KC9 := Lib.hid k3
        have KO9 := Lib.hid (K5.out.kept (grown_of_below W8.heap.size k2) (by
            cases hv : v'.ownBlock with
            | none => exact .inl rfl
            | some i => exact .inr (by have := (hv2 i hv).2; intro e; injection e with e; omega)))
        have KB9 := Lib.hid (K6.out.trans (k2.mono (by omega)))
        obtain ⟨n8, g8, hn8, hcm8, hgd8⟩ := K4.out
        have hcm9 := hcm8.same (k2.block _ hcm8.lt)
        have f9 := KS9.out.f
        obtain ⟨⟨a0, a1, a2, a3, a4⟩, _⟩ := KA9.out
        clear k2 k3 c0 c1 c2 c3 c4 f0 K1 K3 K4 K5 K6
        have hu := HU.out
        have huj : updN j ≤ 6000000 := updN_le j (by omega)
        have HML := Lib.hid hcm9.lt
        go_wp2_with fail
        refine (choose_any st HO.out j (by omega) (left.less c.1) Wd.heap.size (W.heap.size + 1) (Wd.heap.size + 1) (W.heap.size + 1 + 1) (Wd.heap.size + 1 + 1) 2401 n8 g8 _ hll.out (by omega) KS9.out HNE.out hcm9 hgd8).mono ?_
        rintro e W10 ⟨rfl, hso⟩
        have hg10 := hso.only
        have hkp : ∀ i, i < W9.heap.size → i ≠ Wd.heap.size → W10.heap[i]? = W9.heap[i]? := fun i hi hn => hg10.block i hi (by simpa using hn)
        have hs10 := hg10.size
        have KA10 := Lib.hid (KA9.out.same (hkp _ KA9.out.lt (by omega)))
        have KC10 := Lib.hid (KC9.out.same (hkp _ hn9 (by omega)))
        have KS10 := Lib.hid (KS9.out.only hcm9 HNE.out hg10)
        have KM10 := Lib.hid (show MapSt st W10 Wd.heap.size (12000000 + (L.length + 1) * 6000000) from (show MapSt st W10 Wd.heap.size (n8 + updN j) from hso.map).mono (by omega))
        have KO10 := Lib.hid (KO9.out.kept hg10 (by
            cases hv : v'.ownBlock with
            | none => exact .inl rfl
            | some i => exact .inr (by have := (hv2 i hv).1; intro e; injection e with e; omega)))
        have KB10 := Lib.hid (KB9.out.trans (show Below Wd.heap.size W9 W10 from (Below.refl _ _).grown hg10 (by omega) (fun i e => by injection e with e; omega)))
        obtain ⟨⟨q0, q1, q2, q3, q4⟩, r0, r1, r2, r3, r4⟩ := KC10.out
        clear hso hg10 hkp a0 a1 a2 a3 a4 f9 hcm9 hcm8 hgd8
        go_wp2_with fail
        go_roundw
        case rel =>
          have hph : ∀ i, i ≠ W8.heap.size → (putC5 W10 W8.heap.size (st.choose j (left.less c.1)).1 (st.choose j (left.less c.1)).2).heap[i]? = W10.heap[i]? := fun i hi => putC5_heap _ _ _ _ hi
          have hps : (putC5 W10 W8.heap.size (st.choose j (left.less c.1)).1 (st.choose j (left.less c.1)).2).heap.size = W10.heap.size := putC5_size _ _ _ _
          have hwl := HWl.out
          have hob9 : v'.ownBlock ≠ some W8.heap.size := fun e => by have := (hv2 _ e).2; omega
          refine ⟨j, left.less c.1, L ++ [c.1], W8.heap.size, rfl, he, by simp; omega, hll, Lib.hid (KA10.out.same (hph _ (by omega))), Lib.hid (putC5_at KC10.out), by omega, Lib.hid hob9, Lib.hid ?_, Lib.hid (KS10.out.same (hph _ (by omega)) (hph _ (by omega)) (hph _ (by omega)) (hph _ (by omega))), Lib.hid ?_, Lib.hid (KB10.out.trans (putC5_below _ _ _ (by omega))), Nat.le_trans (show W7.heap.size ≤ W10.heap.size by omega) (Nat.le_of_eq hps.symm)⟩
          · rw [bagCells_snoc, List.length_append, List.length_singleton]
            exact KO10.out.kept (w' := putC5 W10 W8.heap.size (st.choose j (left.less c.1)).1 (st.choose j (left.less c.1)).2) (row := some W8.heap.size) ⟨rfl, rfl, rfl, by omega, fun i _ hi => hph i (fun e => hi (by rw [e]))⟩ (.inr hob9)
          · rw [List.length_append, List.length_singleton]
            exact KM10.out.same (hph _ (by omega))
        case measure =>
          have e1 : (putC5 W10 W8.heap.size (st.choose j (left.less c.1)).1 (st.choose j (left.less c.1)).2).cell? ⟨W3.heap.size, 4, none⟩ = some (.int .i64 (j : Int)) := (KA10.out.same (putC5_heap _ _ _ _ (by omega))).1.2.2.2.2
          have e2 := hat.out.1.2.2.2.2
          show (match (putC5 W10 W8.heap.size (st.choose j (left.less c.1)).1 (st.choose j (left.less c.1)).2).cell? ⟨W3.heap.size, 4, none⟩ with | some (.int _ n) => n.toNat | _ => 0) < _
          rw [e1, e2]
          simp
end Go.Proofs.YtmbkngfcbgbeiaaGreat
