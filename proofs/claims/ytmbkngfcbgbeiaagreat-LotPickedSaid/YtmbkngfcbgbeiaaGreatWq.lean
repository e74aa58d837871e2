/- best$1 of package lot: the search for a plan. -/
import Derived.Test.YtmbkngfcbgbeiaaGreatC
import Derived.Maps.AppendAt
set_option linter.unusedSimpArgs false
set_option linter.unusedVariables false
namespace Go.Proofs.YtmbkngfcbgbeiaaGreat
open Go.RowKit Go.Shelf
attribute [local go_sem] Oper.semAt_some

theorem wp_name {P : Program} {c : Code} {Q : Exit → Act → World → Prop} {a : Act} {w : World} (S : World → Prop) (hS : S w) (h : ∀ W1, S W1 → c.wp P Q a W1) : c.wp P Q a w := h w hS

/-- a block's first five cells, which may be written -/
def C5At (w : World) (b : Nat) (x : Bag) (n : Int) : Prop :=
  (w.cell? ⟨b, 0, none⟩ = some (.int .i64 x.a) ∧ w.cell? ⟨b, 1, none⟩ = some (.int .i64 x.b) ∧ w.cell? ⟨b, 2, none⟩ = some (.int .i64 x.c) ∧ w.cell? ⟨b, 3, none⟩ = some (.int .i64 x.d) ∧ w.cell? ⟨b, 4, none⟩ = some (.int .i64 n)) ∧
  w.frozen? ⟨b, 0, none⟩ = false ∧ w.frozen? ⟨b, 1, none⟩ = false ∧ w.frozen? ⟨b, 2, none⟩ = false ∧ w.frozen? ⟨b, 3, none⟩ = false ∧ w.frozen? ⟨b, 4, none⟩ = false
section
variable {w w' : World} {b : Nat} {x : Bag} {n : Int}
theorem C5At.same (h : C5At w b x n) (hb : w'.heap[b]? = w.heap[b]?) : C5At w' b x n :=
  ⟨⟨cell_same hb h.1.1, cell_same hb h.1.2.1, cell_same hb h.1.2.2.1, cell_same hb h.1.2.2.2.1, cell_same hb h.1.2.2.2.2⟩, fro_same hb h.2.1, fro_same hb h.2.2.1, fro_same hb h.2.2.2.1, fro_same hb h.2.2.2.2.1, fro_same hb h.2.2.2.2.2⟩
theorem C5At.lt (h : C5At w b x n) : b < w.heap.size := World.block_lt_of_cell? w _ h.1.1
theorem C5At.later (h : C5At w b x n) (hb : Below w.heap.size w w') : C5At w' b x n := h.same (hb.block _ h.lt)
/-- five numbers stored into a block -/
def putC5 (w : World) (b : Nat) (x : Bag) (n : Int) : World := ((((w.setCell ⟨b, 0, none⟩ (.int .i64 x.a)).setCell ⟨b, 1, none⟩ (.int .i64 x.b)).setCell ⟨b, 2, none⟩ (.int .i64 x.c)).setCell ⟨b, 3, none⟩ (.int .i64 x.d)).setCell ⟨b, 4, none⟩ (.int .i64 n)
theorem putC5_at {y : Bag} {m : Int} (h : C5At w b y m) : C5At (putC5 w b x n) b x n := by
  obtain ⟨⟨h0, h1, h2, h3, h4⟩, f0, f1, f2, f3, f4⟩ := h
  unfold putC5
  refine ⟨⟨?_, ?_, ?_, ?_, ?_⟩, fro_set_of _ (fro_set_of _ (fro_set_of _ (fro_set_of _ (fro_set_of _ f0)))), fro_set_of _ (fro_set_of _ (fro_set_of _ (fro_set_of _ (fro_set_of _ f1)))), fro_set_of _ (fro_set_of _ (fro_set_of _ (fro_set_of _ (fro_set_of _ f2)))), fro_set_of _ (fro_set_of _ (fro_set_of _ (fro_set_of _ (fro_set_of _ f3)))), fro_set_of _ (fro_set_of _ (fro_set_of _ (fro_set_of _ (fro_set_of _ f4))))⟩ <;> simp [go_sem, h0, h1, h2, h3, h4]
theorem putC5_heap (w : World) (b : Nat) (x : Bag) (n : Int) {k : Nat} (hk : k ≠ b) : (putC5 w b x n).heap[k]? = w.heap[k]? := by
  unfold putC5
  rw [Below.heap_setCell _ _ _ _ hk, Below.heap_setCell _ _ _ _ hk, Below.heap_setCell _ _ _ _ hk, Below.heap_setCell _ _ _ _ hk, Below.heap_setCell _ _ _ _ hk]
theorem putC5_size (w : World) (b : Nat) (x : Bag) (n : Int) : (putC5 w b x n).heap.size = w.heap.size := by simp [putC5, World.setCell]
theorem putC5_below (B : Nat) (x : Bag) (n : Int) (h : B ≤ b) : Below B w (putC5 w b x n) := (((((Below.refl B w).setCell (p := ⟨b, 0, none⟩) h _).setCell (p := ⟨b, 1, none⟩) h _).setCell (p := ⟨b, 2, none⟩) h _).setCell (p := ⟨b, 3, none⟩) h _).setCell (p := ⟨b, 4, none⟩) h _
end

/-- what a search leaves: the map of choices alone has turned -/
structure Sought (st : St) (mb n : Nat) (W W' : World) : Prop where
  only : W.grownBy W' (some mb)
  map : ∃ n' g', n' ≤ n ∧ ChosenAt W' mb n' g' ∧ Good st g'

/-- the variables of a search -/
structure SeekAt (st : St) (W : World) (mb wb cv wv fv nw : Nat) : Prop where
  c : W.cell? ⟨cv, 0, none⟩ = some (.map (some mb))
  w : W.cell? ⟨wv, 0, none⟩ = some (.map (some wb))
  f : W.cell? ⟨fv, 0, none⟩ = some (.func (.func 58) #[] #[.pointer (some ⟨cv, 0, none⟩), .pointer (some ⟨wv, 0, none⟩), .pointer (some ⟨fv, 0, none⟩)])
  worth : ∃ h, WorthAt W wb nw h ∧ ∀ x, x.in_ st.all → h x = st.brings x
theorem SeekAt.same {st : St} {W W' : World} {mb wb cv wv fv nw : Nat} (h : SeekAt st W mb wb cv wv fv nw) (h1 : W'.heap[cv]? = W.heap[cv]?) (h2 : W'.heap[wv]? = W.heap[wv]?) (h3 : W'.heap[fv]? = W.heap[fv]?) (h4 : W'.heap[wb]? = W.heap[wb]?) : SeekAt st W' mb wb cv wv fv nw := by
  obtain ⟨c, w, f, k, hk, hf⟩ := h
  exact ⟨cell_same h1 c, cell_same h2 w, cell_same h3 f, k, hk.same h4, hf⟩
theorem SeekAt.lts {st : St} {W : World} {mb wb cv wv fv nw : Nat} (h : SeekAt st W mb wb cv wv fv nw) : cv < W.heap.size ∧ wv < W.heap.size ∧ fv < W.heap.size ∧ wb < W.heap.size :=
  ⟨World.block_lt_of_cell? W _ h.c, World.block_lt_of_cell? W _ h.w, World.block_lt_of_cell? W _ h.f, h.worth.choose_spec.1.lt⟩
/-- a map's block is no block of cells -/
theorem ChosenAt.ne {w : World} {b n : Nat} {g : Bag → Int → Option (Bag × Int)} (h : ChosenAt w b n g) {c o : Nat} {v : Value} (hc : w.cell? ⟨c, o, none⟩ = some v) : c ≠ b := by
  rintro rfl
  obtain ⟨D, ⟨es, clock, h0, _⟩, _⟩ := h
  obtain ⟨ob, ho, hcc⟩ := cells_of_cell hc
  dsimp only at ho
  rw [h0] at ho; cases ho; cases hcc
theorem SeekAt.only {st : St} {W W' : World} {mb wb cv wv fv nw n : Nat} {g : Bag → Int → Option (Bag × Int)} (h : SeekAt st W mb wb cv wv fv nw) (hm : ChosenAt W mb n g) (hne : wb ≠ mb) (hg : W.grownBy W' (some mb)) : SeekAt st W' mb wb cv wv fv nw := by
  have hl := h.lts
  have n1 := hm.ne h.c
  have n2 := hm.ne h.w
  have n3 := hm.ne h.f
  exact h.same (hg.block _ hl.1 (by simpa using n1)) (hg.block _ hl.2.1 (by simpa using n2)) (hg.block _ hl.2.2.1 (by simpa using n3)) (hg.block _ hl.2.2.2 (by simpa using hne))
theorem SeekAt.later {st : St} {W W' : World} {mb wb cv wv fv nw : Nat} (h : SeekAt st W mb wb cv wv fv nw) (hb : Below W.heap.size W W') : SeekAt st W' mb wb cv wv fv nw := by
  have hl := h.lts
  exact h.same (hb.block _ hl.1) (hb.block _ hl.2.1) (hb.block _ hl.2.2.1) (hb.block _ hl.2.2.2)
theorem grown_of_below {W W' : World} (m : Nat) (h : Below W.heap.size W W') : W.grownBy W' (some m) := ⟨h.os, h.tape, h.output, h.size, fun k hk _ => h.block k hk⟩
theorem grown_of_two {W A C : World} {m : Nat} (h : W.grownBy A (some m)) (k : Below W.heap.size A C) : W.grownBy C (some m) := by
  obtain ⟨h1, h2, h3, h4, h5⟩ := h
  exact ⟨k.os.trans h1, k.tape.trans h2, k.output.trans h3, Nat.le_trans h4 k.size, fun i hi hn => (k.block i hi).trans (h5 i hi hn)⟩

theorem Sought.of_below {st : St} {mb n : Nat} {g : Bag → Int → Option (Bag × Int)} {W W' : World} (hm : ChosenAt W mb n g) (hg : Good st g) (hb : Below W.heap.size W W') : Sought st mb n W W' :=
  ⟨grown_of_below mb hb, n, g, Nat.le_refl _, hm.same (hb.block _ hm.lt), hg⟩
theorem below_undrew {w w' : World} (h : Below w.drew.heap.size w.drew w') : Below w.heap.size w w' := ⟨h.os, h.tape, h.output, h.size, h.block⟩
theorem Sought.mono {st : St} {mb n m : Nat} {W W' : World} (h : Sought st mb n W W') (hn : n ≤ m) : Sought st mb m W W' := by
  obtain ⟨n', g', h5, h6⟩ := h.map
  exact ⟨h.only, n', g', Nat.le_trans h5 hn, h6⟩
/-- what is written down, at most so much -/
def MapSt (st : St) (W : World) (mb n : Nat) : Prop := ∃ n' g', n' ≤ n ∧ ChosenAt W mb n' g' ∧ Good st g'
theorem MapSt.same {st : St} {W W' : World} {mb n : Nat} (h : MapSt st W mb n) (hb : W'.heap[mb]? = W.heap[mb]?) : MapSt st W' mb n := by
  obtain ⟨n', g', h1, h2, h3⟩ := h
  exact ⟨n', g', h1, h2.same hb, h3⟩
theorem MapSt.mono {st : St} {W : World} {mb n m : Nat} (h : MapSt st W mb n) (hn : n ≤ m) : MapSt st W mb m := by
  obtain ⟨n', g', h1, h2⟩ := h
  exact ⟨n', g', Nat.le_trans h1 hn, h2⟩
/-- what the search gives -/
def SoughtPost (st : St) (k : Nat) (x : Bag) (mb n : Nat) (W : World) (e : Ending) (W' : World) : Prop := e = .returned (choV (st.choose k x)) ∧ Sought st mb n W W'

set_option maxRecDepth 100000 in
set_option maxHeartbeats 2000000 in
theorem choose_zero (st : St) (x : Bag) (cv wv fv mb n : Nat) (g : Bag → Int → Option (Bag × Int)) (W : World) (hm : ChosenAt W mb n g) (hg : Good st g) :
    Calls Tryz.prog 58 #[stgV x 0, .pointer (some ⟨cv, 0, none⟩), .pointer (some ⟨wv, 0, none⟩), .pointer (some ⟨fv, 0, none⟩)] W (SoughtPost st 0 x mb n W) := by
  have HM := Lib.hid hm
  have HG := Lib.hid hg
  clear hm hg
  go_enter Tryz.func58, Tryz.ntmps58
  go_wp2_with fail
  refine bodyPost_ret (v := choV (bagZ, 0)) (by simp (maxDischargeDepth := 9) [results, Tryz.results58, go_sem, bagZ]) rfl ?_
  exact ⟨rfl, .of_below HM.out HG.out (by repeat (first | (with_reducible exact Below.refl _ _) | (with_reducible refine Below.drew ?_) | (with_reducible refine below_drewN ?_ _) | ((with_reducible refine below_alloc ?_ ?_ _); · (first | exact Nat.le_refl _ | omega | (simp; done) | (simp; omega) | (simp at *; omega))) | ((with_reducible refine below_set ?_ ?_ _); · (first | exact Nat.le_refl _ | omega | (simp; done) | (simp; omega) | (simp at *; omega))) | ((with_reducible refine below_via (by with_reducible assumption) ?_ ?_); · (first | exact Nat.le_refl _ | omega | (simp; done) | (simp; omega) | (simp at *; omega)))))⟩

set_option maxRecDepth 100000 in
set_option maxHeartbeats 4000000 in
theorem choose_step (st : St) (hst : st.ok) (k : Nat) (hk : k ≤ 2)
    (ih : ∀ (y : Bag) (mb wb cv wv fv nw n : Nat) (g : Bag → Int → Option (Bag × Int)) (W : World), y.in_ st.all → n + updN k ≤ 1000000000 → SeekAt st W mb wb cv wv fv nw → wb ≠ mb → ChosenAt W mb n g → Good st g →
      Calls Tryz.prog 58 #[stgV y k, .pointer (some ⟨cv, 0, none⟩), .pointer (some ⟨wv, 0, none⟩), .pointer (some ⟨fv, 0, none⟩)] W (SoughtPost st k y mb (n + updN k) W))
    (x : Bag) (mb wb cv wv fv nw n : Nat) (g : Bag → Int → Option (Bag × Int)) (W : World) (hx : x.in_ st.all) (hn : n + updN (k + 1) ≤ 1000000000) (hs : SeekAt st W mb wb cv wv fv nw) (hne : wb ≠ mb) (hm : ChosenAt W mb n g) (hg : Good st g) :
    Calls Tryz.prog 58 #[stgV x ((k : Int) + 1), .pointer (some ⟨cv, 0, none⟩), .pointer (some ⟨wv, 0, none⟩), .pointer (some ⟨fv, 0, none⟩)] W (SoughtPost st (k + 1) x mb (n + updN (k + 1)) W) := by
  have HM := Lib.hid hm
  have HG := Lib.hid hg
  have HS := Lib.hid hs
  have HX := Lib.hid hx
  have HO := Lib.hid hst
  have IH := Lib.hid ih
  have hk1 : ((k : Int) + 1 == 0) = false := by simp; omega
  have hkd : decide ((k : Int) + 1 = 0) = false := by simp; omega
  have hmw := Lib.hid hne
  have hml := hm.lt
  clear hm hg hs hx hst ih hne
  refine calls_of_wp_marks Tryz.func58 rfl ?_; simp only [Tryz.ntmps58, List.size_toArray, List.length_cons, List.length_nil, Nat.reduceAdd, Nat.reduceSub, Array.replicate_succ, Array.replicate_zero, List.push_toArray, List.append_toArray, List.nil_append, List.cons_append]
  go_upto_region 3 with fail
  refine wp_name (fun W1 => C5At W1 W.heap.size x ((k : Int) + 1) ∧ C5At W1 (W.heap.size + 1) bagZ 0 ∧ Below W.heap.size W W1 ∧ W.heap.size + 1 + 1 ≤ W1.heap.size) ⟨(by (repeat' refine And.intro ?_ ?_) <;> (repeat (first | (with_reducible assumption) | (simp; done) | (with_reducible refine cell_drew_of ?_) | (with_reducible refine cell_drewN_of ?_) | (with_reducible refine cell_below_of (by with_reducible assumption) ?_) | ((with_reducible refine cell_new_of ?_ ?_) <;> (first | (with_reducible rfl) | (simp; done))) | ((with_reducible refine fro_new_of ?_) <;> (first | (with_reducible rfl) | (simp; done))) | (with_reducible refine cell_alloc_of _ ?_) | (with_reducible refine cell_set_of _ (by (first | exact Nat.le_refl _ | omega | (simp; done) | (simp; omega))) ?_) | (with_reducible refine fro_drew_of ?_) | (with_reducible refine fro_drewN_of ?_) | (with_reducible refine fro_below_of (by with_reducible assumption) (by (first | exact Nat.le_refl _ | omega | (simp; done) | (simp; omega))) ?_) | (with_reducible refine fro_alloc_of _ (by (first | exact Nat.le_refl _ | omega | (simp; done) | (simp; omega))) ?_) | (with_reducible refine fro_set_of _ ?_)))), (show C5At _ _ ⟨0, 0, 0, 0⟩ 0 from (by (repeat' refine And.intro ?_ ?_) <;> (repeat (first | (with_reducible assumption) | (simp; done) | (with_reducible refine cell_drew_of ?_) | (with_reducible refine cell_drewN_of ?_) | (with_reducible refine cell_below_of (by with_reducible assumption) ?_) | ((with_reducible refine cell_new_of ?_ ?_) <;> (first | (with_reducible rfl) | (simp; done))) | ((with_reducible refine fro_new_of ?_) <;> (first | (with_reducible rfl) | (simp; done))) | (with_reducible refine cell_alloc_of _ ?_) | (with_reducible refine cell_set_of _ (by (first | exact Nat.le_refl _ | omega | (simp; done) | (simp; omega))) ?_) | (with_reducible refine fro_drew_of ?_) | (with_reducible refine fro_drewN_of ?_) | (with_reducible refine fro_below_of (by with_reducible assumption) (by (first | exact Nat.le_refl _ | omega | (simp; done) | (simp; omega))) ?_) | (with_reducible refine fro_alloc_of _ (by (first | exact Nat.le_refl _ | omega | (simp; done) | (simp; omega))) ?_) | (with_reducible refine fro_set_of _ ?_))))), (by repeat (first | (with_reducible exact Below.refl _ _) | (with_reducible refine Below.drew ?_) | (with_reducible refine below_drewN ?_ _) | ((with_reducible refine below_alloc ?_ ?_ _); · (first | exact Nat.le_refl _ | omega | (simp; done) | (simp; omega) | (simp at *; omega))) | ((with_reducible refine below_set ?_ ?_ _); · (first | exact Nat.le_refl _ | omega | (simp; done) | (simp; omega) | (simp at *; omega))) | ((with_reducible refine below_via (by with_reducible assumption) ?_ ?_); · (first | exact Nat.le_refl _ | omega | (simp; done) | (simp; omega) | (simp at *; omega))))), by simp⟩ ?_
  rintro W1 ⟨h1, h2, h3, hW1⟩
  have HB1 := Lib.hid h3
  have hm1 := HM.out.same (h3.block _ HM.out.lt)
  have hs1 := HS.out.later h3
  have hlk := hm1.look (St.in_sml HO.out HX.out) (l := (k : Int) + 1) (by omega)
  have c0 := hs1.c
  obtain ⟨⟨b0, b1, b2, b3, b4⟩, _⟩ := id h1
  have H2 := Lib.hid h2
  cases hgx : g x ((k : Int) + 1) with
  | some c =>
    rw [hgx] at hlk
    dsimp only [Option.getD_some, Option.isSome_some] at hlk
    have hcc : c = st.choose (k + 1) x := HG.out x (k + 1) c HX.out (by rw [← hgx]; rfl)
    have HC := Lib.hid hcc
    have HM1 := Lib.hid hm1
    obtain ⟨⟨r0, r1, r2, r3, r4⟩, f0, f1, f2, f3, f4⟩ := h2
    clear hgx hcc hm1 hs1 h1 h3
    go_wp2_with fail
    refine ⟨choV c, (by simp (maxDischargeDepth := 9) [results, Tryz.results58, go_sem, r0, r1, r2, r3, r4]), by rw [HC.out], (Sought.of_below HM.out HG.out ?_).mono (Nat.le_add_right _ _)⟩
    have hbo := HB1.out
    exact (by repeat (first | (with_reducible exact Below.refl _ _) | (with_reducible refine Below.drew ?_) | (with_reducible refine below_drewN ?_ _) | ((with_reducible refine below_alloc ?_ ?_ _); · (first | exact Nat.le_refl _ | omega | (simp; done) | (simp; omega) | (simp at *; omega))) | ((with_reducible refine below_set ?_ ?_ _); · (first | exact Nat.le_refl _ | omega | (simp; done) | (simp; omega) | (simp at *; omega))) | ((with_reducible refine below_via (by with_reducible assumption) ?_ ?_); · (first | exact Nat.le_refl _ | omega | (simp; done) | (simp; omega) | (simp at *; omega)))))
  | none =>
    rw [hgx] at hlk
    dsimp only [Option.getD_none, Option.isSome_none] at hlk
    have HM1 := Lib.hid hm1
    have HS1 := Lib.hid hs1
    have HGX := Lib.hid hgx
    have H1 := Lib.hid h1
    clear hgx hm1 hs1 h1 h3 h2
    go_wp2_with fail
    refine (within_any x _).mono ?_
    rintro e w2 ⟨rfl, hbag, hsz, hb2⟩
    have hob : C5At w2 (W1.heap.size + 1) bagZ 0 := (show C5At ((W1.alloc (.cells #[.int .i64 0, .int .i64 0, .int .i64 0, .int .i64 0, .int .i64 0] 140)).alloc (.cells #[.int .i64 0, .int .i64 0, .int .i64 0, .int .i64 0, .int .i64 0] 140)) (W1.heap.size + 1) ⟨0, 0, 0, 0⟩ 0 from (by (repeat' refine And.intro ?_ ?_) <;> (repeat (first | (with_reducible assumption) | (simp; done) | (with_reducible refine cell_drew_of ?_) | (with_reducible refine cell_drewN_of ?_) | (with_reducible refine cell_below_of (by with_reducible assumption) ?_) | ((with_reducible refine cell_new_of ?_ ?_) <;> (first | (with_reducible rfl) | (simp; done))) | ((with_reducible refine fro_new_of ?_) <;> (first | (with_reducible rfl) | (simp; done))) | (with_reducible refine cell_alloc_of _ ?_) | (with_reducible refine cell_set_of _ (by (first | exact Nat.le_refl _ | omega | (simp; done) | (simp; omega))) ?_) | (with_reducible refine fro_drew_of ?_) | (with_reducible refine fro_drewN_of ?_) | (with_reducible refine fro_below_of (by with_reducible assumption) (by (first | exact Nat.le_refl _ | omega | (simp; done) | (simp; omega))) ?_) | (with_reducible refine fro_alloc_of _ (by (first | exact Nat.le_refl _ | omega | (simp; done) | (simp; omega))) ?_) | (with_reducible refine fro_set_of _ ?_))))).later hb2
    have hg2 : Below W1.heap.size W1 w2 := (by repeat (first | (with_reducible exact Below.refl _ _) | (with_reducible refine Below.drew ?_) | (with_reducible refine below_drewN ?_ _) | ((with_reducible refine below_alloc ?_ ?_ _); · (first | exact Nat.le_refl _ | omega | (simp; done) | (simp; omega) | (simp at *; omega))) | ((with_reducible refine below_set ?_ ?_ _); · (first | exact Nat.le_refl _ | omega | (simp; done) | (simp; omega) | (simp at *; omega))) | ((with_reducible refine below_via (by with_reducible assumption) ?_ ?_); · (first | exact Nat.le_refl _ | omega | (simp; done) | (simp; omega) | (simp at *; omega)))))
    simp only [World.size_alloc] at hsz hbag
    have hs2 : W1.heap.size + 1 + 1 + 1 ≤ w2.heap.size := by omega
    have H12 := Lib.hid (H1.out.later hg2)
    have H22 := Lib.hid (H2.out.later hg2)
    have HS2 := Lib.hid (HS1.out.later hg2)
    have HM2 := Lib.hid (HM1.out.same (hg2.block _ HM1.out.lt))
    have HB2 := Lib.hid (HB1.out.trans (hg2.mono (by omega)))
    clear hsz hb2 b0 b1 b2 b3 b4 c0 hlk
    go_wp2_with fail
    have hsl := HS.out.lts
    refine wp_within x (fun k _ => by have h1 := Bag.in_at HX.out k; have h2 := St.all_bd HO.out k; omega) (W1.heap.size + 1 + 1) rfl rfl
      (fun pre Wx => C5At Wx (W1.heap.size + 1) (st.choOf k x pre).1 (st.choOf k x pre).2 ∧ C5At Wx W.heap.size x ((k : Int) + 1) ∧ C5At Wx (W.heap.size + 1) bagZ 0 ∧ MapSt st Wx mb (n + pre.length * updN k) ∧ SeekAt st Wx mb wb cv wv fv nw ∧ BagC Wx (W1.heap.size + 1 + 1) x ∧ W.grownBy Wx (some mb) ∧ w2.heap.size ≤ Wx.heap.size)
      (fun _ _ _ => False)
      (fun s A C ⟨h1, h2, h3, h4, h5, h6, h7, h8⟩ hb => ⟨h1.same (hb.block _ (by omega)), h2.same (hb.block _ (by omega)), h3.same (hb.block _ (by omega)), h4.same (hb.block _ (by omega)), h5.same (hb.block _ (by omega)) (hb.block _ (by omega)) (hb.block _ (by omega)) (hb.block _ (by omega)), h6.same (hb.block _ (by omega)), grown_of_two h7 (hb.mono (by omega)), Nat.le_trans h8 hb.size⟩)
      (fun _ _ _ _ h _ => h) (fun _ _ h => h.2.2.2.2.2.1) ⟨hob, H12.out, H22.out, ⟨n, g, by simp, HM2.out, HG.out⟩, HS2.out, hbag, grown_of_below mb HB2.out, Nat.le_refl _⟩
      ?fr ?assign ?body ?done ?stop
    case assign =>
      intro l pre x Wr K hi hK
      have HK := Lib.hid hK
      clear hK hi
      gi_wp2
      obtain ⟨Bx, hBx⟩ : ∃ Bx, Bx = Wr.heap.size := ⟨_, rfl⟩
      rw [← hBx]
      refine HK.out Bx _ hBx ?_ ?_
      · exact (by repeat (first | (with_reducible exact Below.refl _ _) | (with_reducible refine Below.drew ?_) | (with_reducible refine below_drewN ?_ _) | ((with_reducible refine below_alloc ?_ ?_ _); · (first | exact Nat.le_refl _ | omega | (simp; done) | (simp; omega) | (simp at *; omega))) | ((with_reducible refine below_set ?_ ?_ _); · (first | exact Nat.le_refl _ | omega | (simp; done) | (simp; omega) | (simp at *; omega))) | ((with_reducible refine below_via (by with_reducible assumption) ?_ ?_); · (first | exact Nat.le_refl _ | omega | (simp; done) | (simp; omega) | (simp at *; omega)))))
      subst hBx
      refine at4' ?_ ?_ ?_ ?_ <;> (repeat (first | (with_reducible assumption) | (simp; done) | (with_reducible refine cell_drew_of ?_) | (with_reducible refine cell_drewN_of ?_) | (with_reducible refine cell_below_of (by with_reducible assumption) ?_) | ((with_reducible refine cell_new_of ?_ ?_) <;> (first | (with_reducible rfl) | (simp; done))) | ((with_reducible refine fro_new_of ?_) <;> (first | (with_reducible rfl) | (simp; done))) | (with_reducible refine cell_alloc_of _ ?_) | (with_reducible refine cell_set_of _ (by (first | exact Nat.le_refl _ | omega | (simp; done) | (simp; omega))) ?_) | (with_reducible refine fro_drew_of ?_) | (with_reducible refine fro_drewN_of ?_) | (with_reducible refine fro_below_of (by with_reducible assumption) (by (first | exact Nat.le_refl _ | omega | (simp; done) | (simp; omega))) ?_) | (with_reducible refine fro_alloc_of _ (by (first | exact Nat.le_refl _ | omega | (simp; done) | (simp; omega))) ?_) | (with_reducible refine fro_set_of _ ?_)))
    case body =>
      rintro l pre y Bx Wr ⟨h1, h2, h3, h4, h5, h6, h7, h8⟩ hBx hy hpre hlt
      have HYI := Lib.hid (mem_bagsOf.1 (hpre.subset (by simp : y ∈ pre ++ [y])))
      have HYA := Lib.hid (Bag.in_trans HYI.out HX.out)
      have hstep := Lib.hid (st.choOf_snoc k x pre y)
      have hobd := St.choOf_bd HO.out k HX.out (l := pre) (fun b hb => mem_bagsOf.1 (hpre.subset (by simp [hb])))
      have hlen : pre.length + 1 ≤ 2401 := by
        have e1 := hpre.length_le
        have e2 := bagsOf_length (left := x) (fun k hk => by have h1 := Bag.in_at HX.out k; have h2 := St.all_bd HO.out k; omega)
        simp only [List.length_append, List.length_cons, List.length_nil] at e1
        omega
      have H := Lib.hid (And.intro h1 (And.intro h2 (And.intro h3 (And.intro h4 (And.intro h5 (And.intro h6 (And.intro h7 h8)))))))
      have HY := Lib.hid hy
      have hw0 := h5.w
      obtain ⟨hf, hwo, hfe⟩ := h5.worth
      have hlk := hwo.look (St.in_sml HO.out HYA.out)
      rw [hfe y HYA.out] at hlk
      have y0 := hy 0 (by omega)
      have y1 := hy 1 (by omega)
      have y2 := hy 2 (by omega)
      have y3 := hy 3 (by omega)
      simp only [Bag.at] at y0 y1 y2 y3
      obtain ⟨⟨b0, b1, b2, b3, b4⟩, _⟩ := id h2
      obtain ⟨⟨o0, o1, o2, o3, o4⟩, p0, p1, p2, p3, p4⟩ := id h1
      have hf0 := h5.f
      have hbb := St.brings_bd HO.out HYA.out
      have hcb := St.choose_bd HO.out k (x.less y) (Bag.in_trans (Bag.less_in HYI.out) HX.out)
      clear h1 h2 h3 h4 h5 h6 h7 h8 hy hpre hwo hfe
      cases hz : (st.brings y == 0) with
      | true =>
        have hz0 : st.brings y = 0 := by simpa using hz
        have e1 : Hid (st.choOf k x (pre ++ [y]) = st.choOf k x pre) := Lib.hid (by rw [hstep.out]; unfold St.chStep; rw [if_pos hz0])
        clear hz0
        gi_wp2
        obtain ⟨h1, h2, h3, h4, h5, h6, h7, h8⟩ := H.out
        refine ⟨NewFrom.refl _ _, by rw [e1.out]; exact h1, h2, h3, h4.mono ?_, h5, h6, h7, h8⟩
        rw [List.length_append, List.length_singleton, Nat.add_mul]
        omega
      | false =>
        have hz0 : ¬ st.brings y = 0 := by simpa using hz
        have e1 : Hid (st.choOf k x (pre ++ [y]) = if decide ((st.choOf k x pre).2 < st.brings y + (st.choose k (x.less y)).2) then (y, st.brings y + (st.choose k (x.less y)).2) else st.choOf k x pre) := Lib.hid (by rw [hstep.out]; unfold St.chStep; rw [if_neg hz0])
        have hcf : ∀ args w, (callFunc 58 args).run Tryz.prog w = .ok (.enter 58 args) w := enters_of Tryz.func58 (by kernel_rfl) rfl
        have ew : IntKind.i64.wrap (k : Int) = (k : Int) := IntWalk.i64_in _ (by omega)
        have hsx : ∀ j, j < 4 → -1000 ≤ x.at j ∧ x.at j ≤ 1000 := fun j _ => by have h1 := Bag.in_at HX.out j; have h2 := St.all_bd HO.out j; omega
        have hsy : ∀ j, j < 4 → -1000 ≤ y.at j ∧ y.at j ≤ 1000 := fun j _ => by have h1 := Bag.in_at HYA.out j; have h2 := St.all_bd HO.out j; omega
        have HLX := Lib.hid hsx
        have HLY := Lib.hid hsy
        clear hz0 hsx hsy
        gi_wp2
        refine region_held_in (S := fun w' => w'.cell? ⟨fv, 0, none⟩ = some (.func (.func 58) #[] #[.pointer (some ⟨cv, 0, none⟩), .pointer (some ⟨wv, 0, none⟩), .pointer (some ⟨fv, 0, none⟩)]) ∧
          (w'.cell? ⟨W.heap.size, 0, none⟩ = some (.int .i64 x.a) ∧ w'.cell? ⟨W.heap.size, 1, none⟩ = some (.int .i64 x.b) ∧ w'.cell? ⟨W.heap.size, 2, none⟩ = some (.int .i64 x.c) ∧ w'.cell? ⟨W.heap.size, 3, none⟩ = some (.int .i64 x.d) ∧ w'.cell? ⟨W.heap.size, 4, none⟩ = some (.int .i64 ((k : Int) + 1))) ∧
          (w'.cell? ⟨Bx, 0, none⟩ = some (.int .i64 y.a) ∧ w'.cell? ⟨Bx, 1, none⟩ = some (.int .i64 y.b) ∧ w'.cell? ⟨Bx, 2, none⟩ = some (.int .i64 y.c) ∧ w'.cell? ⟨Bx, 3, none⟩ = some (.int .i64 y.d))) (by kernel_rfl) (by kernel_rfl) ⟨hf0, ⟨b0, b1, b2, b3, b4⟩, y0, y1, y2, y3⟩ (fun hHeld => ?_)
        refine wpAnyH_take (i := 0) (oi := ⟨some 32, _, _, _, _, _⟩) (v := .int .i64 (st.brings y)) rfl (by kernel_rfl) (by kernel_rfl) (by kernel_rfl) (fun _ _ _ h => h) (Or.inl ⟨by kernel_rfl, (by intro w hSw; (try dsimp only at hSw); go_split_ands; go_simp)⟩) hHeld ?_; (try simp only [Act.put, List.setIfInBounds_toArray, List.set_cons_zero, List.set_cons_succ])
        refine wpAnyH_take (i := 1) (oi := ⟨some 33, _, _, _, _, _⟩) (v := .func (.func 58) #[] #[.pointer (some ⟨cv, 0, none⟩), .pointer (some ⟨wv, 0, none⟩), .pointer (some ⟨fv, 0, none⟩)]) rfl (by kernel_rfl) (by kernel_rfl) (by kernel_rfl) (fun _ _ _ h => h) (Or.inl ⟨by kernel_rfl, (by intro w hSw; (try dsimp only at hSw); go_split_ands; go_simp)⟩) hHeld ?_; (try simp only [Act.put, List.setIfInBounds_toArray, List.set_cons_zero, List.set_cons_succ])
        refine wpAnyH_take (i := 2) (oi := ⟨some 34, _, _, _, _, _⟩) (v := .pointer (some ⟨W.heap.size, 0, none⟩)) rfl (by kernel_rfl) (by kernel_rfl) (by kernel_rfl) (fun _ _ _ h => h) (Or.inl ⟨by kernel_rfl, (by intro w hSw; (try dsimp only at hSw); go_split_ands; go_simp)⟩) hHeld ?_; (try simp only [Act.put, List.setIfInBounds_toArray, List.set_cons_zero, List.set_cons_succ])
        refine wpAnyH_take (i := 3) (oi := ⟨some 35, _, _, _, _, _⟩) (v := bagV x) rfl (by kernel_rfl) (by kernel_rfl) (by kernel_rfl) (fun _ _ _ h => h) (Or.inl ⟨by kernel_rfl, (by intro w hSw; (try dsimp only at hSw); go_split_ands; go_simp)⟩) hHeld ?_; (try simp only [Act.put, List.setIfInBounds_toArray, List.set_cons_zero, List.set_cons_succ])
        refine wpAnyH_take (i := 4) (oi := ⟨some 36, _, _, _, _, _⟩) (v := bagV y) rfl (by kernel_rfl) (by kernel_rfl) (by kernel_rfl) (fun _ _ _ h => h) (Or.inl ⟨by kernel_rfl, (by intro w hSw; (try dsimp only at hSw); go_split_ands; go_simp)⟩) hHeld ?_; (try simp only [Act.put, List.setIfInBounds_toArray, List.set_cons_zero, List.set_cons_succ])
        refine wpAnyH_take (i := 6) (oi := ⟨some 38, _, _, _, _, _⟩) (v := .pointer (some ⟨W.heap.size, 4, none⟩)) rfl (by kernel_rfl) (by kernel_rfl) (by kernel_rfl) (fun _ _ _ h => h) (Or.inl ⟨by kernel_rfl, (by intro w hSw; (try dsimp only at hSw); go_split_ands; go_simp)⟩) hHeld ?_; (try simp only [Act.put, List.setIfInBounds_toArray, List.set_cons_zero, List.set_cons_succ])
        refine wpAnyH_take (i := 7) (oi := ⟨some 39, _, _, _, _, _⟩) (v := .int .i64 ((k : Int) + 1)) rfl (by kernel_rfl) (by kernel_rfl) (by kernel_rfl) (fun _ _ _ h => h) (Or.inl ⟨by kernel_rfl, (by intro w hSw; (try dsimp only at hSw); go_split_ands; go_simp)⟩) hHeld ?_; (try simp only [Act.put, List.setIfInBounds_toArray, List.set_cons_zero, List.set_cons_succ])
        refine wpAnyH_take (i := 8) (oi := ⟨some 40, _, _, _, _, _⟩) (v := .int .i64 (k : Int)) rfl (by kernel_rfl) (by kernel_rfl) (by kernel_rfl) (fun _ _ _ h => h) (Or.inl ⟨by kernel_rfl, (by intro w hSw; (try dsimp only at hSw); go_split_ands; go_simp)⟩) hHeld ?_; (try simp only [Act.put, List.setIfInBounds_toArray, List.set_cons_zero, List.set_cons_succ])
        refine wpAnyH_ready (rs := [5]) (by kernel_rfl) (by simp) ?_; refine AllReadyH.cons (o := ⟨some 37, _, _, _, _, _⟩) rfl (fun K hK => ?_) AllReadyH.nil; rw [if_pos (by rfl)]
        go_simp
        refine (less_any x y _ HLX.out HLY.out).mono ?_
        rintro e w3 ⟨rfl, hb3⟩
        obtain ⟨hc3, hf3⟩ := bcell hb3; have hz3 := hb3.size; (try simp only [World.size_drew, World.heap_drewN, World.size_alloc] at hz3)
        clear hHeld
        refine hK.out _ _ ?_ (fun hHeld => ?_)
        · ((go_split_ands; (repeat' refine And.intro ?_ ?_) <;> (repeat (first | (with_reducible assumption) | (simp; done) | (with_reducible refine cell_drew_of ?_) | (with_reducible refine cell_drewN_of ?_) | (with_reducible refine cell_below_of (by with_reducible assumption) ?_) | ((with_reducible refine cell_new_of ?_ ?_) <;> (first | (with_reducible rfl) | (simp; done))) | ((with_reducible refine fro_new_of ?_) <;> (first | (with_reducible rfl) | (simp; done))) | (with_reducible refine cell_alloc_of _ ?_) | (with_reducible refine cell_set_of _ (by (first | exact Nat.le_refl _ | omega | (simp; done) | (simp; omega))) ?_) | (with_reducible refine fro_drew_of ?_) | (with_reducible refine fro_drewN_of ?_) | (with_reducible refine fro_below_of (by with_reducible assumption) (by (first | exact Nat.le_refl _ | omega | (simp; done) | (simp; omega))) ?_) | (with_reducible refine fro_alloc_of _ (by (first | exact Nat.le_refl _ | omega | (simp; done) | (simp; omega))) ?_) | (with_reducible refine fro_set_of _ ?_)))))
        clear hK K hc3 hf3
        (try simp only [Act.put, List.setIfInBounds_toArray, List.set_cons_zero, List.set_cons_succ])
        refine wpAnyH_take (i := 9) (oi := ⟨some 41, _, _, _, _, _⟩) (v := stgV (x.less y) k) rfl (by kernel_rfl) (by kernel_rfl) (by kernel_rfl) (fun _ _ _ h => h) (Or.inl ⟨by kernel_rfl, (by intro w hSw; (try dsimp only at hSw); go_split_ands; go_simp)⟩) hHeld ?_; (try simp only [Act.put, List.setIfInBounds_toArray, List.set_cons_zero, List.set_cons_succ])
        refine wpAnyH_ready (rs := [10]) (by kernel_rfl) (by simp) ?_; refine AllReadyH.cons (o := ⟨some 42, _, _, _, _, _⟩) rfl (fun K hK => ?_) AllReadyH.nil; rw [if_pos (by rfl)]
        go_simp
        have hb3' := below_undrew hb3
        have hs3' := hb3'.size
        obtain ⟨n', g', hn', hcm, hgd⟩ := H.out.2.2.2.1
        have hU : (pre.length + 1) * updN k ≤ 2401 * updN k := Nat.mul_le_mul_right _ hlen
        have hU2 : updN (k + 1) = 1 + 2401 * updN k := rfl
        rw [Nat.add_mul, Nat.one_mul] at hU
        have hcm3 := hcm.same (hb3'.block _ hcm.lt)
        have hsk3 := H.out.2.2.2.2.1.later hb3'
        refine (IH.out (x.less y) mb wb cv wv fv nw n' g' _ (Bag.in_trans (Bag.less_in HYI.out) HX.out) (by omega) hsk3 hmw.out hcm3 hgd).mono ?_
        rintro e w4 ⟨rfl, hso⟩
        have hS4 : ∀ b o v, w3.cell? ⟨b, o, none⟩ = some v → w4.cell? ⟨b, o, none⟩ = some v := fun b o v h => cell_same (hso.only.block _ (World.block_lt_of_cell? w3 _ h) (by have := hcm3.ne h; simpa using this)) h
        have HS4 := Lib.hid hS4
        have HSO := Lib.hid hso
        have hz4 := hso.only.size
        obtain ⟨q0, ⟨q1, q2, q3, q4, q5⟩, q6, q7, q8, q9⟩ := hHeld
        refine hK.out _ _ ⟨HS4.out _ _ _ q0, ⟨HS4.out _ _ _ q1, HS4.out _ _ _ q2, HS4.out _ _ _ q3, HS4.out _ _ _ q4, HS4.out _ _ _ q5⟩, HS4.out _ _ _ q6, HS4.out _ _ _ q7, HS4.out _ _ _ q8, HS4.out _ _ _ q9⟩ (fun hHeld => ?_)
        clear hK K q0 q1 q2 q3 q4 q5 q6 q7 q8 q9 hS4 hso hcm hgd hcm3 hsk3
        (try simp only [Act.put, List.setIfInBounds_toArray, List.set_cons_zero, List.set_cons_succ])
        refine wpAnyH_take (i := 11) (oi := ⟨some 43, _, _, _, _, _⟩) (v := .int .i64 (st.choose k (x.less y)).2) rfl (by kernel_rfl) (by kernel_rfl) (by kernel_rfl) (fun _ _ _ h => h) (Or.inl ⟨by kernel_rfl, (by intro w hSw; (try dsimp only at hSw); go_split_ands; go_simp)⟩) hHeld ?_; (try simp only [Act.put, List.setIfInBounds_toArray, List.set_cons_zero, List.set_cons_succ])
        refine wpAnyH_ready (rs := [12]) (by kernel_rfl) (by simp) ?_; refine AllReadyH.cons (o := ⟨some 44, _, _, _, _, _⟩) rfl (fun K hK => ?_) AllReadyH.nil; rw [if_pos (by rfl)]
        go_simp
        refine hK.out _ _ ?_ (fun hHeld => ?_)
        · ((go_split_ands; (repeat' refine And.intro ?_ ?_) <;> (repeat (first | (with_reducible assumption) | (simp; done) | (with_reducible refine cell_drew_of ?_) | (with_reducible refine cell_drewN_of ?_) | (with_reducible refine cell_below_of (by with_reducible assumption) ?_) | ((with_reducible refine cell_new_of ?_ ?_) <;> (first | (with_reducible rfl) | (simp; done))) | ((with_reducible refine fro_new_of ?_) <;> (first | (with_reducible rfl) | (simp; done))) | (with_reducible refine cell_alloc_of _ ?_) | (with_reducible refine cell_set_of _ (by (first | exact Nat.le_refl _ | omega | (simp; done) | (simp; omega))) ?_) | (with_reducible refine fro_drew_of ?_) | (with_reducible refine fro_drewN_of ?_) | (with_reducible refine fro_below_of (by with_reducible assumption) (by (first | exact Nat.le_refl _ | omega | (simp; done) | (simp; omega))) ?_) | (with_reducible refine fro_alloc_of _ (by (first | exact Nat.le_refl _ | omega | (simp; done) | (simp; omega))) ?_) | (with_reducible refine fro_set_of _ ?_)))))
        clear hK K
        (try simp only [Act.put, List.setIfInBounds_toArray, List.set_cons_zero, List.set_cons_succ])
        refine wpAnyH_ready (rs := [13]) (by kernel_rfl) (by simp) ?_; refine AllReadyH.cons (o := ⟨some 45, _, _, _, _, _⟩) rfl (fun K hK => ?_) AllReadyH.nil; rw [if_pos (by rfl)]
        go_simp
        refine (sum2n _ _ _ _ _ (by omega) (by omega)).mono ?_
        rintro e w5' ⟨rfl, rfl⟩
        refine hK.out _ _ hHeld (fun hHeld => ?_)
        clear hK K
        (try simp only [Act.put, List.setIfInBounds_toArray, List.set_cons_zero, List.set_cons_succ])
        refine wpAnyH_take (i := 14) (oi := ⟨some 10, _, _, _, _, _⟩) (v := .int .i64 (st.brings y + (st.choose k (x.less y)).2)) rfl (by kernel_rfl) (by kernel_rfl) (by kernel_rfl) (fun _ _ _ h => h) (Or.inl ⟨by kernel_rfl, (by intro w hSw; (try dsimp only at hSw); go_split_ands; go_simp)⟩) hHeld ?_; (try simp only [Act.put, List.setIfInBounds_toArray, List.set_cons_zero, List.set_cons_succ])
        refine wpAnyH_done (by kernel_rfl) ?_ _
        clear hHeld y0 y1 y2 y3 b0 b1 b2 b3 b4 o0 o1 o2 o3 o4 p0 p1 p2 p3 p4 hw0 hlk hf0
        have hb3u := Lib.hid hb3'
        have hbl : Below w4.heap.size w4 (w4.alloc (.cells #[.int .i64 (st.brings y), .int .i64 (st.choose k (x.less y)).2] 3)) := (Below.refl _ _).alloc (Nat.le_refl _) _
        generalize (w4.alloc (.cells #[.int .i64 (st.brings y), .int .i64 (st.choose k (x.less y)).2] 3)) = w5 at hbl ⊢
        have hz5 := hbl.size
        have hG : Hid (Wr.grownBy w5 (some mb)) := Lib.hid (grown_of_two ((grown_of_below mb hb3u.out).trans HSO.out.only) (hbl.mono (by omega)))
        have hkp : Hid (∀ i, i < Wr.heap.size → i ≠ mb → w5.heap[i]? = Wr.heap[i]?) := Lib.hid (fun i hi hn => hG.out.block i hi (by simpa using hn))
        have hob5 : C5At w5 (W1.heap.size + 1) (st.choOf k x pre).1 (st.choOf k x pre).2 := H.out.1.same (hkp.out _ (by omega) (by omega))
        have HOB5 := Lib.hid hob5
        have HMM : Hid (MapSt st w5 mb (n + (pre.length + 1) * updN k)) := Lib.hid (by
          obtain ⟨n'', g'', e3, e4, e5⟩ := HSO.out.map
          exact ⟨n'', g'', by rw [Nat.add_mul]; omega, e4.same (hbl.block _ e4.lt), e5⟩)
        obtain ⟨⟨o0, o1, o2, o3, o4⟩, p0, p1, p2, p3, p4⟩ := hob5
        clear hb3 hb3' hbl
        dsimp only [onlyN]
        cases hcmp : decide ((st.choOf k x pre).2 < st.brings y + (st.choose k (x.less y)).2) with
        | false =>
          have HC := Lib.hid hcmp
          gi_wp2
          obtain ⟨h1, h2, h3, h4, h5, h6, h7, h8⟩ := H.out
          have e2 : st.choOf k x (pre ++ [y]) = st.choOf k x pre := by rw [e1.out, HC.out]; rfl
          have hl5 := h5.lts
          have hmx := HM.out
          have hnl : ∀ {b o v}, Wr.cell? ⟨b, o, none⟩ = some v → b ≠ mb := fun h => by obtain ⟨_, _, _, hc, _⟩ := h4; exact hc.ne h
          refine (show _ ∧ _ from ⟨⟨hG.out.size, fun i hi hl => hkp.out i hl (by omega)⟩, by rw [e2]; exact HOB5.out, h2.same (hkp.out _ h2.lt (by omega)), h3.same (hkp.out _ h3.lt (by omega)), by rw [List.length_append, List.length_singleton]; exact HMM.out,
            h5.same (hkp.out _ hl5.1 (hnl h5.c)) (hkp.out _ hl5.2.1 (hnl h5.w)) (hkp.out _ hl5.2.2.1 (hnl h5.f)) (hkp.out _ hl5.2.2.2 hmw.out), h6.same (hkp.out _ h6.lt (by omega)), h7.trans hG.out, Nat.le_trans h8 hG.out.size⟩)
        | true =>
          have HC := Lib.hid hcmp
          have hy5 : BagC w5 Bx y := HY.out.same (hkp.out _ HY.out.lt (by omega))
          have y0 := hy5 0 (by omega)
          have y1 := hy5 1 (by omega)
          have y2 := hy5 2 (by omega)
          have y3 := hy5 3 (by omega)
          simp only [Bag.at] at y0 y1 y2 y3
          gi_wp2
          obtain ⟨h1, h2, h3, h4, h5, h6, h7, h8⟩ := H.out
          have e2 : st.choOf k x (pre ++ [y]) = (y, st.brings y + (st.choose k (x.less y)).2) := by rw [e1.out, HC.out]; rfl
          have hl5 := h5.lts
          have hnl : ∀ {b o v}, Wr.cell? ⟨b, o, none⟩ = some v → b ≠ mb := fun h => by obtain ⟨_, _, _, hc, _⟩ := h4; exact hc.ne h
          have hph : ∀ i, i ≠ W1.heap.size + 1 → (putC5 w5 (W1.heap.size + 1) y (st.brings y + (st.choose k (x.less y)).2)).heap[i]? = w5.heap[i]? := fun i hi => putC5_heap _ _ _ _ hi
          have hsp := putC5_size w5 (W1.heap.size + 1) y (st.brings y + (st.choose k (x.less y)).2)
          refine (show _ ∧ _ from ⟨⟨Nat.le_trans hG.out.size (Nat.le_of_eq hsp.symm), fun i hi hl => (hph i (by omega)).trans (hkp.out i hl (by omega))⟩, by rw [e2]; exact putC5_at HOB5.out, (h2.same (hkp.out _ h2.lt (by omega))).same (hph _ (by omega)), (h3.same (hkp.out _ h3.lt (by omega))).same (hph _ (by omega)), by rw [List.length_append, List.length_singleton]; exact HMM.out.same (hph _ (by omega)),
            (h5.same (hkp.out _ hl5.1 (hnl h5.c)) (hkp.out _ hl5.2.1 (hnl h5.w)) (hkp.out _ hl5.2.2.1 (hnl h5.f)) (hkp.out _ hl5.2.2.2 hmw.out)).same (hph _ (by omega)) (hph _ (by omega)) (hph _ (by omega)) (hph _ (by omega)), (h6.same (hkp.out _ h6.lt (by omega))).same (hph _ (by omega)),
            grown_of_two (h7.trans hG.out) (putC5_below _ _ _ (by omega)), Nat.le_trans (Nat.le_trans h8 hG.out.size) (Nat.le_of_eq hsp.symm)⟩)
    case stop => exact fun _ _ _ _ _ _ h => h.elim
    case done =>
      rintro D Wd hD ⟨h1, h2, h3, h4, h5, h6, h7, h8⟩ hdef
      have hlen : (bagsOf x).length ≤ 2401 := bagsOf_length (fun k hk => by have h1 := Bag.in_at HX.out k; have h2 := St.all_bd HO.out k; omega)
      have hU := Nat.mul_le_mul_right (updN k) hlen
      have hU2 : updN (k + 1) = 1 + 2401 * updN k := rfl
      have hcc := Lib.hid (St.choose_succ st k x)
      rw [← St.choose_succ] at h1
      obtain ⟨n', g', hn', hcm, hgd⟩ := h4
      obtain ⟨Wp, hrun, hcm', hgr⟩ := hcm.put (St.in_sml HO.out HX.out) (l := (k : Int) + 1) (by omega) (st.choose (k + 1) x) (by omega)
      have hgd' := Lib.hid (show Good st _ from hgd.put x (k + 1))
      have hlt := hcm.lt
      have hnd : D ≠ mb := by rintro rfl; omega
      have hkp : ∀ i, i < Wd.heap.size → i ≠ mb → Wp.heap[i]? = Wd.heap[i]? := fun i hi hn => hgr.block i hi (by simpa using hn)
      have hdl : D < Wd.heap.size := (Array.getElem?_eq_some_iff.1 hdef).1
      have HDef := Lib.hid ((hkp D hdl hnd).trans hdef)
      have h1p := h1.same (hkp _ h1.lt (by omega))
      have h3p := h3.same (hkp _ h3.lt (by omega))
      have hgW := Lib.hid (h7.trans hgr)
      have HCM := Lib.hid hcm'
      have hcv := h5.c
      have hsp := hgr.size
      obtain ⟨⟨o0, o1, o2, o3, o4⟩, _⟩ := h1
      obtain ⟨⟨b0, b1, b2, b3, b4⟩, _⟩ := h2
      obtain ⟨⟨p0, p1, p2, p3, p4⟩, _⟩ := h1p
      obtain ⟨⟨r0, r1, r2, r3, r4⟩, f0, f1, f2, f3, f4⟩ := id h3p
      have H3P := Lib.hid h3p
      clear h3 h3p h5 h6 h7 h8 hdef hcm hgd hcm' hgr hkp
      generalize hcg : st.choose (k + 1) x = c at *
      have HCG := Lib.hid hcg
      clear hcg
      go_wp2_with fail
      show bodyPostM _ _ _ _ _ Exit.ret _ (putC5 Wp (W.heap.size + 1) c.1 c.2)
      have hph : ∀ i, i ≠ W.heap.size + 1 → (putC5 Wp (W.heap.size + 1) c.1 c.2).heap[i]? = Wp.heap[i]? := fun i hi => putC5_heap _ _ _ _ hi
      have HD5 := Lib.hid ((hph D (by omega)).trans HDef.out)
      refine ⟨by simp, .inl ⟨_, _, rfl, run_takeDeferred HD5.out, ?_⟩⟩
      have hq : C5At ((putC5 Wp (W.heap.size + 1) c.1 c.2).putObj D (.deferred none)) (W.heap.size + 1) c.1 c.2 := (putC5_at H3P.out).same (World.putObj_heap_other (by omega))
      have hcq : ChosenAt ((putC5 Wp (W.heap.size + 1) c.1 c.2).putObj D (.deferred none)) mb (n' + 1) _ := (HCM.out.same (hph mb (by omega))).same (World.putObj_heap_other (Ne.symm hnd))
      have hgq : W.grownBy ((putC5 Wp (W.heap.size + 1) c.1 c.2).putObj D (.deferred none)) (some mb) := grown_of_two (grown_of_two hgW.out (putC5_below _ _ _ (by omega))) (below_put _ _ _ _ (by omega) (by rw [putC5_size]; omega))
      generalize (putC5 Wp (W.heap.size + 1) c.1 c.2).putObj D (.deferred none) = Wf at hq hcq hgq ⊢
      obtain ⟨⟨q0, q1, q2, q3, q4⟩, _⟩ := hq
      refine ⟨choV c, (by simp (maxDischargeDepth := 9) [results, Tryz.results58, go_sem, q0, q1, q2, q3, q4]), by rw [HCG.out], hgq, n' + 1, _, by omega, hcq, ?_⟩
      exact hgd'.out
  
/-- the search -/
theorem choose_any (st : St) (hst : st.ok) : ∀ (k : Nat), k ≤ 3 → ∀ (y : Bag) (mb wb cv wv fv nw n : Nat) (g : Bag → Int → Option (Bag × Int)) (W : World), y.in_ st.all → n + updN k ≤ 1000000000 → SeekAt st W mb wb cv wv fv nw → wb ≠ mb → ChosenAt W mb n g → Good st g →
    Calls Tryz.prog 58 #[stgV y k, .pointer (some ⟨cv, 0, none⟩), .pointer (some ⟨wv, 0, none⟩), .pointer (some ⟨fv, 0, none⟩)] W (SoughtPost st k y mb (n + updN k) W)
  | 0, _ => fun y mb wb cv wv fv nw n g W _ _ _ _ hm hg => choose_zero st y cv wv fv mb n g W hm hg
  | k + 1, hk => fun y mb wb cv wv fv nw n g W hy hn hs hne hm hg => choose_step st hst k (by omega) (choose_any st hst k (by omega)) y mb wb cv wv fv nw n g W hy hn hs hne hm hg
end Go.Proofs.YtmbkngfcbgbeiaaGreat
