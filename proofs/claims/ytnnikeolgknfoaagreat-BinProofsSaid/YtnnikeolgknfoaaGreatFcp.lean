/- Why, Round, and what they show (out of XU2, XT6, XV4, XV5). -/
import Derived.Test.YtnnikeolgknfoaaGreatBs
import Derived.Test.YtnnikeolgknfoaaGreatBl
import Derived.Test.YtnnikeolgknfoaaGreatP1
import Derived.Test.YtnnikeolgknfoaaGreatEcm
import Derived.Laws.MakeOwn
import Derived.Laws.CopyOwn
set_option linter.unusedSimpArgs false
set_option linter.unusedVariables false
namespace Go.Proofs.YtnnikeolgknfoaaGreat
open Go.RowKit Go.Shelf


/-- a walk that shows, or the error -/
def WhyPost (r : Rw) (f t : Int) (most : Bool) (W : World) (e : Ending) (W' : World) : Prop :=
  (r.askErr f t = 0 ∧ ∃ (l : List Fc) (A : Option Addr) (c : Nat), e = .returned (.tuple #[.slice A l.length c, .int .i64 0]) ∧ W'.ownsRow W.heap.size 76 3 (.slice A l.length c) l.length (fcL l) ∧ Chain r (waysR f t most).1.toNat (waysR f t most).2.toNat l ∧ wsum r l = r.search.1.L (waysR f t most).1.toNat (waysR f t most).2.toNat ∧ l.length ≤ r.n ∧ Below W.heap.size W W') ∨
  (r.askErr f t ≠ 0 ∧ e = .returned (.tuple #[.slice none 0 0, .int .i64 (r.askErr f t)]) ∧ Below W.heap.size W W')

set_option maxRecDepth 100000 in
set_option maxHeartbeats 4000000 in
theorem Why_any (r : Rw) (f t : Int) (most : Bool) (bA dA vA : Option Addr) (bc dc vc : Nat) (W : World) (hrow : RwRow W W.heap.size r bA bc dA dc vA vc) :
    Calls Tryz.prog 42 #[rwV bA r.n bc dA r.d dc vA r.m vc, .int .i64 f, .int .i64 t, .bool most] W (WhyPost r f t most W) := by
  have H0 := Lib.hid hrow
  clear hrow
  go_enter Tryz.func42, Tryz.ntmps42
  go_wp2_with fail
  refine (asked_any r f t bA dA vA bc dc vc _ ((H0.out.later (by repeat (first | (with_reducible first | exact Below.refl _ _ | assumption | refine Below.drew ?_) | ((with_reducible first | refine Lc ?_ ?_ _ | refine Ls ?_ ?_ _ | refine Lv (by assumption) ?_ ?_); · first | exact Nat.le_refl _ | omega | (dsimp only; omega) | (simp only [World.size_alloc, World.size_drew, World.heap_drewN]; omega) | (simp; omega))))).up (by first | exact Nat.le_refl _ | omega | (simp; done) | (simp; omega) | (simp at *; omega)) (by first | exact Nat.le_refl _ | omega | (simp; done) | (simp; omega) | (simp at *; omega)))).mono ?_
  rintro e w1 (⟨h0, db, A, c, rfl, hdb, hd, ho, hb1⟩ | ⟨h0, rfl, hb1⟩)
  · have HB1 := Lib.hid (show Below W.heap.size W w1 from (by repeat (first | (with_reducible first | exact Below.refl _ _ | refine Below.drew ?_ | refine below_drewN ?_ _) | ((with_reducible first | refine Lc ?_ ?_ _ | refine Ls ?_ ?_ _ | refine Lv (by assumption) ?_ ?_); · first | exact Nat.le_refl _ | omega | (simp; done) | (simp; omega) | (simp at *; omega)))))
    obtain ⟨hok, hf0, hft, htn, hrd⟩ := Rw.ask_ok h0
    obtain ⟨f', rfl⟩ := Int.eq_ofNat_of_zero_le hf0
    obtain ⟨t', rfl⟩ := Int.eq_ofNat_of_zero_le (by omega : 0 ≤ t)
    have hfin := Rw.fin_of hok hrd
    have hn6 := hok.n6
    have hs1 := HB1.out.size
    have HD := Lib.hid hd
    have HE := Lib.hid h0
    have hww : waysR (f' : Int) (t' : Int) most = (((if most then f' else t' + 1 : Nat) : Int), ((if most then t' + 1 else f' : Nat) : Int)) := by
      unfold waysR
      cases most <;> simp
    obtain ⟨x, hx⟩ : ∃ x : Nat, x = (if most then f' else t' + 1) := ⟨_, rfl⟩
    obtain ⟨y, hy⟩ : ∃ y : Nat, y = (if most then t' + 1 else f') := ⟨_, rfl⟩
    rw [← hx, ← hy] at hww
    have hxn : x ≤ r.n ∧ y ≤ r.n := by
      rw [hx, hy]
      cases most <;> simp <;> omega
    obtain ⟨hc, hsum, hlen⟩ := hfin.w x y hxn.1 hxn.2
    have hwk := Wk.of hok 7 x hxn.1 hc
    obtain ⟨l, hl⟩ : ∃ l, l = wlk r r.search.1.F y 7 x := ⟨_, rfl⟩
    rw [← hl] at hc hsum hlen hwk
    have HW := Lib.hid hwk
    have HC := Lib.hid (And.intro hc (And.intro hsum hlen))
    have HWW := Lib.hid hww
    have HOK := Lib.hid hok
    have hl1000 : l.length ≤ 1000 := by omega
    clear h0 hd ho hb1 hok hfin hrd hf0 hc hsum hlen hwk hl hx hy hww
    go_wp2_with fail
    refine (ways_any (f' : Int) (t' : Int) most (by omega) _).mono ?_
    rintro e w2 ⟨rfl, hb2⟩
    rw [HWW.out]
    have HB2 := Lib.hid (HB1.out.trans ((show Below w1.heap.size w1 w2 from (by repeat (first | (with_reducible first | exact Below.refl _ _ | assumption | refine Below.drew ?_) | ((with_reducible first | refine Lc ?_ ?_ _ | refine Ls ?_ ?_ _ | refine Lv (by assumption) ?_ ?_); · first | exact Nat.le_refl _ | omega | (dsimp only; omega) | (simp only [World.size_alloc, World.size_drew, World.heap_drewN]; omega) | (simp; omega))))).mono hs1))
    have hb12 : Below w1.heap.size w1 w2 := (by repeat (first | (with_reducible first | exact Below.refl _ _ | assumption | refine Below.drew ?_) | ((with_reducible first | refine Lc ?_ ?_ _ | refine Ls ?_ ?_ _ | refine Lv (by assumption) ?_ ?_); · first | exact Nat.le_refl _ | omega | (dsimp only; omega) | (simp only [World.size_alloc, World.size_drew, World.heap_drewN]; omega) | (simp; omega))))
    have HD2 := Lib.hid (HD.out.later hb12)
    have hs2 := HB2.out.size
    clear hb2 hb12 HD HB1
    go_wp2_with fail
    refine (walk_any r HOK.out r.search.1.F _ db bA dA vA bc dc vc y x hxn.2 hxn.1 l hl1000 HW.out _ (HD2.out.later (by repeat (first | (with_reducible first | exact Below.refl _ _ | assumption | refine Below.drew ?_) | ((with_reducible first | refine Lc ?_ ?_ _ | refine Ls ?_ ?_ _ | refine Lv (by assumption) ?_ ?_); · first | exact Nat.le_refl _ | omega | (dsimp only; omega) | (simp only [World.size_alloc, World.size_drew, World.heap_drewN]; omega) | (simp; omega))))).f (HD2.out.later (by repeat (first | (with_reducible first | exact Below.refl _ _ | assumption | refine Below.drew ?_) | ((with_reducible first | refine Lc ?_ ?_ _ | refine Ls ?_ ?_ _ | refine Lv (by assumption) ?_ ?_); · first | exact Nat.le_refl _ | omega | (dsimp only; omega) | (simp only [World.size_alloc, World.size_drew, World.heap_drewN]; omega) | (simp; omega))))).a).mono ?_
    rintro e w3 ⟨A3, c3, rfl, ho3, hb3⟩
    have HB3 := Lib.hid (HB2.out.trans ((show Below w2.heap.size w2 w3 from (by repeat (first | (with_reducible first | exact Below.refl _ _ | assumption | refine Below.drew ?_) | ((with_reducible first | refine Lc ?_ ?_ _ | refine Ls ?_ ?_ _ | refine Lv (by assumption) ?_ ?_); · first | exact Nat.le_refl _ | omega | (dsimp only; omega) | (simp only [World.size_alloc, World.size_drew, World.heap_drewN]; omega) | (simp; omega))))).mono hs2))
    have HO3 := Lib.hid ho3
    clear hb3 ho3
    go_wp2_with fail
    go_ret2
    refine .inl ⟨HE.out, l, A3, c3, rfl, owns_low (by first | exact Nat.le_refl _ | omega | (simp; done) | (simp; omega) | (simp at *; omega)) HO3.out, ?_, ?_, HC.out.2.2, HB3.out⟩
    · rw [HWW.out]
      exact HC.out.1
    · rw [HWW.out]
      exact HC.out.2.1
  · have HB1 := Lib.hid (show Below W.heap.size W w1 from (by repeat (first | (with_reducible first | exact Below.refl _ _ | refine Below.drew ?_ | refine below_drewN ?_ _) | ((with_reducible first | refine Lc ?_ ?_ _ | refine Ls ?_ ?_ _ | refine Lv (by assumption) ?_ ?_); · first | exact Nat.le_refl _ | omega | (simp; done) | (simp; omega) | (simp at *; omega)))))
    have hne : (r.askErr f t != 0) = true := by simpa using h0
    have HE := Lib.hid h0
    clear hb1 h0
    go_wp2_with fail
    go_ret2
    exact .inr ⟨HE.out, rfl, HB1.out⟩


theorem Chain.allT {r : Rw} : ∀ {l : List Fc} {a b : Nat}, Chain r a b l → ∀ f, f ∈ l → r.has f
  | f :: l, a, b, h, g, hg => by
    rcases List.mem_cons.1 hg with rfl | hg
    · exact h.1
    · exact Chain.allT h.2.2 g hg
/-- a walk followed -/
theorem fol_chainT {r : Rw} (hr : r.ok) {P : Nat → Fc} : ∀ (l : List Fc) (k : Nat) (a b : Nat) (s x0 y0 : Int), (∀ j, j < l.length → P (k + j) = l.getD j fc0) → Chain r a b l → r.fol P k = some (x0, y0, s) → (k ≠ 0 → y0 = (a : Int)) → 0 < k + l.length →
    r.fol P (k + l.length) = some (if k = 0 then (a : Int) else x0, (b : Int), s + wsum r l)
  | [], k, a, b, s, x0, y0, hP, hc, hf, h0, hpos => by
    have : a = b := hc
    subst this
    have hk : k ≠ 0 := by simp at hpos; omega
    rw [if_neg hk, ← h0 hk]
    show r.fol P k = some (x0, y0, s + 0)
    rw [hf, Int.add_zero]
  | f :: l, k, a, b, s, x0, y0, hP, hc, hf, h0, hpos => by
    obtain ⟨h1, h2, h3⟩ := hc
    have hbd := Rw.ab_bd hr h1
    have hpk : P k = f := hP 0 (by simp)
    have hfr : r.from_ f = (a : Int) := by rw [← hbd.2.2.2.2.2.1, h2]
    have hto : r.to_ f = ((r.b f : Nat) : Int) := hbd.2.2.2.2.2.2.symm
    have hstep : r.fol P (k + 1) = some (if k = 0 then (a : Int) else x0, ((r.b f : Nat) : Int), s + r.num f) := by
      unfold Rw.fol
      rw [hf]
      dsimp only
      rw [hpk, hfr, hto]
      by_cases e : k = 0
      · simp [e]
      · simp [e, h0 e]
    have g1 := fol_chainT hr l (k + 1) (r.b f) b (s + r.num f) (if k = 0 then (a : Int) else x0) ((r.b f : Nat) : Int) (fun j hj => by
      have := hP (j + 1) (by simp; omega)
      rw [show k + 1 + j = k + (j + 1) by omega, this]
      rfl) h3 hstep (fun _ => rfl) (by omega)
    rw [List.length_cons, show k + (l.length + 1) = k + 1 + l.length by omega, g1, if_neg (by omega)]
    show some (_, (b : Int), s + r.num f + wsum r l) = some (_, (b : Int), s + (r.num f + wsum r l))
    rw [Int.add_assoc]
/-- a walk from where to where it must lead shows its number -/
theorem shows_ways {r : Rw} (hr : r.ok) {P : Nat → Fc} {l : List Fc} {f t : Nat} (most : Bool) (hft : f ≤ t) (ht : t < r.n) {x y : Nat} (hx : x = if most then f else t + 1) (hy : y = if most then t + 1 else f) (hP : ∀ j, j < l.length → P j = l.getD j fc0) (hc : Chain r x y l) (hl : l.length ≤ 20) : r.showsR (f : Int) (t : Int) most l.length P = (if most then wsum r l else -wsum r l, 0) := by
  have hne : 0 < l.length := by
    cases l with
    | nil =>
      have h : x = y := hc
      rw [hx, hy] at h
      cases most <;> simp at h <;> omega
    | cons x y => simp
  have hf := fol_chainT (P := P) hr l 0 x y 0 0 0 (fun j hj => by rw [Nat.zero_add]; exact hP j hj) hc rfl (fun e => absurd rfl e) (by omega)
  rw [Nat.zero_add, if_pos rfl, Int.zero_add] at hf
  have hb : r.binsErr (f : Int) (t : Int) = 0 := by
    unfold Rw.binsErr
    rw [if_neg (by simp only [inB]; simp; omega), if_neg (by omega)]
  have hk : r.knownErr l.length P = 0 := by
    unfold Rw.knownErr
    rw [if_neg (by omega), if_neg ?_]
    have : allN (fun k => r.knows (P k)) l.length = true := allN_iff.2 (fun k hk => by
      have hm : l.getD k fc0 ∈ l := by
        rw [List.getD_eq_getElem?_getD, List.getElem?_eq_getElem hk]
        exact List.getElem_mem hk
      have hh := Chain.allT hc _ hm
      rw [hP k hk]
      exact Rw.knows_iff.2 hh)
    rw [this]
    decide
  unfold Rw.showsR
  rw [if_neg (by rw [Rw.check_ok.2 hr]; decide), if_neg (by rw [hb]; decide), if_neg (by rw [hk]; decide)]
  have hfr : r.followR P l.length = ((x : Int), (y : Int), wsum r l, true) := by
    unfold Rw.followR
    rw [hf]
    simp [hne]
  rw [hfr, if_pos ⟨rfl, by unfold waysR; rw [hx]; cases most <;> simp, by unfold waysR; rw [hy]; cases most <;> simp⟩]

theorem Torn.contra {r : Rw} (hr : r.ok) {P : Nat → Fc} {l : List Fc} (h : Torn r l) (hP : ∀ j, j < l.length → P j = l.getD j fc0) : r.contraR l.length P = (true, 0) := by
  obtain ⟨a, ha, hc⟩ := h.c
  have hm := h.m
  have hs := h.s
  have hpos : 0 < l.length := by
    cases e : l with
    | nil => exact absurd e h.n
    | cons x y => simp
  have hf := fol_chainT (P := P) hr l 0 a a 0 0 0 (fun j hj => by rw [Nat.zero_add]; exact hP j hj) hc rfl (fun e => absurd rfl e) (by omega)
  rw [Nat.zero_add, if_pos rfl, Int.zero_add] at hf
  have hk : r.knownErr l.length P = 0 := by
    unfold Rw.knownErr
    rw [if_neg (by omega), if_neg ?_]
    have : allN (fun k => r.knows (P k)) l.length = true := allN_iff.2 (fun k hk => by
      have hm : l.getD k fc0 ∈ l := by
        rw [List.getD_eq_getElem?_getD, List.getElem?_eq_getElem hk]
        exact List.getElem_mem hk
      rw [hP k hk]
      exact Rw.knows_iff.2 (Chain.allT hc _ hm))
    rw [this]
    decide
  unfold Rw.contraR
  rw [if_neg (by rw [Rw.check_ok.2 hr]; decide), if_neg (by rw [hk]; decide)]
  unfold Rw.followR
  rw [hf]
  dsimp only
  simp [hpos, hs]


theorem run_copy_sizedV {P : Program} (w : World) (dT sT ty elem : TypeId) (s g o dLen dCap : Nat) (a : Addr) (sLen sCap : Nat) (cur : Array Value) (t : TypeId) (cs : List Value)
    (hu : P.underlying dT = some (.slice elem)) (hs : (P.info? elem).map (·.size) = some s)
    (hg : w.heap[g]? = some (.cells cur t (0, 0))) (hn : cs.length = Nat.min sLen dLen * s)
    (hsrc : ∀ j v, cs[j]? = some v → w.cell? (a.add j) = some v) (hfit : o + cs.length ≤ cur.size) (h1 : ∀ v ∈ cs, v.oneCell' = true) :
    (Builtin.copy_ #[dT, sT] ty #[.slice (some ⟨g, o, none⟩) dLen dCap, .slice (some a) sLen sCap]).run P w =
      .ok (goInt (Nat.min sLen dLen)) (w.setRow g (cur.toList.take o ++ cs ++ cur.toList.drop (o + cs.length)).toArray) := by
  have hl := run_loadCells_list (P := P) w a cs hsrc
  have hst := run_storeCells_at (P := P) g o t cs 0 cur w hg (by simpa using hfit) h1
  cases hq : P.info? elem with
  | none => simp [hq] at hs
  | some i =>
    have hi : i.size = s := by simpa [hq] using hs
    simp [Builtin.copy_, run_underlying hu, Builtin.lenOf, Builtin.firstCells, sizeOf, typeInfo, hq, hi, ← hn, hl, hst]
theorem wpList_copy_sizedV {P : Program} {w : World} {ops : Array Oper} {rest : List Oper} {o : Oper} {a : Act} {Q : Exit → Act → World → Prop} (hgd : o.guard = none) (d s : Operand) (dT sT : TypeId)
    (ho : o.op = .call { callee := .builtin .copy, args := #[d, s], argTypes := #[dT, sT] }) (elem : TypeId) (sz : Nat) (hu : P.underlying dT = some (.slice elem)) (hsz : (P.info? elem).map (·.size) = some sz)
    (g off dLen dCap : Nat) (ad : Addr) (sLen sCap : Nat) (hd : a.eval d = .slice (some ⟨g, off, none⟩) dLen dCap) (hs : a.eval s = .slice (some ad) sLen sCap)
    (cur : Array Value) (t : TypeId) (hg : w.heap[g]? = some (.cells cur t (0, 0))) (cs : List Value) (hn : cs.length = Nat.min sLen dLen * sz)
    (hsrc : ∀ j v, cs[j]? = some v → w.cell? (ad.add j) = some v) (hfit : off + cs.length ≤ cur.size) (h1 : ∀ v ∈ cs, v.oneCell' = true)
    (h : wpList P ops Q rest (a.put o.dst (goInt (Nat.min sLen dLen))) (w.setRow g (cur.toList.take off ++ (cs ++ cur.toList.drop (off + cs.length))).toArray)) : wpList P ops Q (o :: rest) a w := by
  refine wpList_plain hgd fun K hK => ?_
  have hrun := run_copy_sizedV (P := P) w dT sT o.type elem sz g off dLen dCap ad sLen sCap cur t cs hu hsz hg hn hsrc hfit h1
  unfold Oper.wp
  simp [execOp, ho, resolve, invoke, builtin, hd, hs, hrun, Result.andThen]
  exact hK _ _ h
theorem mkFc (n : Nat) (hn : n ≤ 1000) (w : World) : (Instr.makeSlice 73 (.int .i64 (n : Int)) (.int .i64 (n : Int))).run Tryz.prog w = .ok (.slice (some ⟨w.heap.size, 0, none⟩) n n) (w.alloc (.cells (madeCells (Value.cells (.agg #[.bool false, .int .i64 0, .bool false])) (n * 3)) 76)) := by
  obtain ⟨i0, hi, hz0, hz1, hz2⟩ := info_parts infoFc
  have h := run_make (P := Tryz.prog) w 73 76 i0 _ fcs_under hi hz0 .i64 .i64 (n : Int) (n : Int) (by omega) (Int.le_refl _) (by rw [hz2]; omega) (by omega)
  rw [hz1, Int.toNat_natCast] at h
  exact h
/-- a walk that contradicts, or an error -/
def RoundPost (r : Rw) (W : World) (e : Ending) (W' : World) : Prop :=
  (r.check = 0 ∧ r.round ≠ [] ∧ ∃ (A : Option Addr) (c : Nat), e = .returned (.tuple #[.slice A r.round.length c, .int .i64 0]) ∧ W'.ownsRow W.heap.size 76 3 (.slice A r.round.length c) r.round.length (fcL r.round) ∧ Below W.heap.size W W') ∨
  (r.check = 0 ∧ r.round = [] ∧ e = .returned (.tuple #[.slice none 0 0, .int .i64 1]) ∧ Below W.heap.size W W') ∨
  (r.check ≠ 0 ∧ e = .returned (.tuple #[.slice none 0 0, .int .i64 r.check]) ∧ Below W.heap.size W W')

set_option maxRecDepth 100000 in
set_option maxHeartbeats 4000000 in
theorem Round_any (r : Rw) (bA dA vA : Option Addr) (bc dc vc : Nat) (W : World) (hrow : RwRow W W.heap.size r bA bc dA dc vA vc) :
    Calls Tryz.prog 46 #[rwV bA r.n bc dA r.d dc vA r.m vc] W (RoundPost r W) := by
  have H0 := Lib.hid hrow
  clear hrow
  obtain ⟨i0, hi, hz0, hz1, hz2⟩ := info_parts infoFc
  go_enter Tryz.func46, Tryz.ntmps46
  go_wp2_with fail
  refine (opened_any r bA dA vA bc dc vc _ ((H0.out.later (by repeat (first | (with_reducible first | exact Below.refl _ _ | assumption | refine Below.drew ?_) | ((with_reducible first | refine Lc ?_ ?_ _ | refine Ls ?_ ?_ _ | refine Lv (by assumption) ?_ ?_); · first | exact Nat.le_refl _ | omega | (dsimp only; omega) | (simp only [World.size_alloc, World.size_drew, World.heap_drewN]; omega) | (simp; omega))))).up (by first | exact Nat.le_refl _ | omega | (simp; done) | (simp; omega) | (simp at *; omega)) (by first | exact Nat.le_refl _ | omega | (simp; done) | (simp; omega) | (simp at *; omega)))).mono ?_
  rintro e w1 (⟨h0, db, A, c, rfl, hdb, hd, ho, hb1⟩ | ⟨h0, rfl, hb1⟩)
  · have HB1 := Lib.hid (show Below W.heap.size W w1 from (by repeat (first | (with_reducible first | exact Below.refl _ _ | refine Below.drew ?_ | refine below_drewN ?_ _) | ((with_reducible first | refine Lc ?_ ?_ _ | refine Ls ?_ ?_ _ | refine Lv (by assumption) ?_ ?_); · first | exact Nat.le_refl _ | omega | (simp; done) | (simp; omega) | (simp at *; omega)))))
    have hs1 := HB1.out.size
    have HE := Lib.hid h0
    have HO := Lib.hid (owns_low (by simp) ho : w1.ownsRow W.heap.size 76 3 (.slice A r.round.length c) r.round.length (fcL r.round))
    have hr1 := hd.rd
    have hok := Rw.check_ok.1 h0
    by_cases hz : r.round = []
    · have HZ := Lib.hid hz
      have hl0 : (r.round.length : Int) = 0 := by rw [hz]; rfl
      have hb0 : ((r.round.length : Int) == 0) = true := by rw [hl0]; rfl
      clear h0 hd ho hb1 hok hz hl0
      go_wp2_with fail
      go_ret2
      exact .inr (.inl ⟨HE.out, HZ.out, rfl, HB1.out⟩)
    · have HZ := Lib.hid hz
      have hT : Torn r r.round := by
        rcases Rw.round_spec hok with ⟨-, h1, -⟩ | ⟨a, k, -, -, -, -, h1⟩
        · exact absurd h1 hz
        · exact h1
      have hm := hT.m
      have hfl := fcL_len r.round
      have hf1 := fcL_one r.round
      obtain ⟨l, hl⟩ : ∃ l, l = r.round := ⟨_, rfl⟩
      rw [← hl] at HO hr1 hm hfl hf1
      have hpos : 0 < l.length := by
        rw [hl]
        exact List.length_pos_iff.2 hz
      have HL := Lib.hid hl
      have hb0 : ((l.length : Int) == 0) = false := by rw [beq_eq_false_iff_ne]; omega
      obtain ⟨n, hn⟩ : ∃ n, n = l.length := ⟨_, rfl⟩
      have HN := Lib.hid hn
      rw [← hn] at HO hr1 hm hfl hpos hb0
      have hmk := mkFc n (by omega)
      rcases HO.out.2 with ⟨-, h00⟩ | ⟨g, cap, cur0, e0, hbg, -⟩
      · omega
      injection e0 with e1 _ e2
      subst e1
      have hcl : ∀ jj u, (fcL l)[jj]? = some u → w1.cell? ((⟨g, 0, none⟩ : Addr).add jj) = some u := fun jj u hu => HO.out.cells (g := g) rfl jj u hu
      have HCL := Lib.hid hcl
      have HFL := Lib.hid hfl
      have HF1 := Lib.hid hf1
      clear e2 hcl hfl hf1
      clear h0 hd ho hb1 hok hz hl hT hn
      have hgl : g < w1.heap.size := World.block_lt_of_cell? w1 _ (HCL.out 0 (.bool (l.getD 0 fc0).w) (by have h := fcL_get l 0 0 (by have := HN.out; omega) (by omega); simpa [fcC] using h))
      have hg2 : (w1.alloc (.cells (madeCells #[Value.bool false, .int .i64 0, .bool false] (n * 3)) 76)).heap[w1.heap.size]? = some (.cells (madeCells #[Value.bool false, .int .i64 0, .bool false] (n * 3)) 76 (0, 0)) := by
        show (w1.heap.push _)[w1.heap.size]? = _
        simp
      have hfl3 : (fcL l).length = n * 3 := by rw [HFL.out]
      have hcp := run_copy_sizedV (P := Tryz.prog) (w1.alloc (.cells (madeCells #[Value.bool false, .int .i64 0, .bool false] (n * 3)) 76)) 73 73 3 76 3 w1.heap.size 0 n n ⟨g, 0, none⟩ n c _ 76 (fcL l) fcs_under (by rw [hi]; simp [hz1]) hg2 (by rw [hfl3]; simp) (fun jj u hu => Lib.cell?_alloc_some _ (HCL.out jj u hu)) (by rw [hfl3, size_madeCells]; omega) HF1.out
      obtain ⟨w2, hw2⟩ : ∃ w2, w2 = (w1.alloc (.cells (madeCells #[Value.bool false, .int .i64 0, .bool false] (n * 3)) 76)).setRow w1.heap.size (List.take 0 (madeCells #[Value.bool false, .int .i64 0, .bool false] (n * 3)).toList ++ fcL l ++ List.drop (0 + (fcL l).length) (madeCells #[Value.bool false, .int .i64 0, .bool false] (n * 3)).toList).toArray := ⟨_, rfl⟩
      rw [← hw2, show n.min n = n from Nat.min_self n] at hcp
      have hx : (List.take 0 (madeCells #[Value.bool false, .int .i64 0, .bool false] (n * 3)).toList ++ fcL l ++ List.drop (0 + (fcL l).length) (madeCells #[Value.bool false, .int .i64 0, .bool false] (n * 3)).toList) = fcL l := by
        rw [List.drop_eq_nil_of_le (by rw [hfl3, Array.length_toList, size_madeCells]; omega)]
        simp
      rw [hx] at hw2
      have ho2 : w2.ownsRow W.heap.size 76 3 (.slice (some ⟨w1.heap.size, 0, none⟩) n n) n (fcL l) := by
        rw [hw2]
        exact ⟨hfl3, .inr ⟨w1.heap.size, n, (fcL l).toArray, rfl, hs1, setRow_heap _ _ _ _ _ _ hg2, Nat.le_refl _, by unfold maxLen; omega, by simpa using hfl3, by rw [List.take_of_length_le (by simp; omega)]⟩⟩
      have hb2 : Below W.heap.size W w2 := by
        rw [hw2]
        exact below_setRow (HB1.out.alloc hs1 _) hs1 _
      have HO2 := Lib.hid ho2
      have HB2 := Lib.hid hb2
      have hmk2 : ∀ w : World, (Instr.makeSlice 73 (.int .i64 (n : Int)) (.int .i64 (n : Int))).run Tryz.prog w = .ok (.slice (some ⟨w.heap.size, 0, none⟩) n n) (w.alloc (.cells (madeCells #[Value.bool false, .int .i64 0, .bool false] (n * 3)) 76)) := hmk
      clear ho2 hb2 hw2 hx hg2 hfl3 hmk
      go_wp2_with fail
      go_ret2
      refine .inl ⟨HE.out, HZ.out, some ⟨w1.heap.size, 0, none⟩, n, ?_, ?_, HB2.out⟩
      · rw [← HL.out, ← HN.out]
        rfl
      · rw [← HL.out, ← HN.out]
        exact HO2.out
  · have HB1 := Lib.hid (show Below W.heap.size W w1 from (by repeat (first | (with_reducible first | exact Below.refl _ _ | refine Below.drew ?_ | refine below_drewN ?_ _) | ((with_reducible first | refine Lc ?_ ?_ _ | refine Ls ?_ ?_ _ | refine Lv (by assumption) ?_ ?_); · first | exact Nat.le_refl _ | omega | (simp; done) | (simp; omega) | (simp at *; omega)))))
    have hne : (r.check != 0) = true := by simpa using h0
    have HE := Lib.hid h0
    clear hb1 h0
    go_wp2_with fail
    go_ret2
    exact .inr (.inr ⟨HE.out, rfl, HB1.out⟩)
end Go.Proofs.YtnnikeolgknfoaaGreat
