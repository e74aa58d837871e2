/- A desk in memory; how many foul sacks a bag can have. -/
import Derived.Test.YtmbkngfcbgbeiaaGreatWb
import Derived.RangeFuncCalls
import Derived.RangeFuncBound
import Derived.RangeFuncNested
import Derived.Shelf.Abstract
set_option linter.unusedSimpArgs false
set_option linter.unusedVariables false
namespace Go.Proofs.YtmbkngfcbgbeiaaGreat
open Go.RowKit Go.Shelf

/-- a row of pickings in memory, below block B -/
def PkRow (w : World) (B : Nat) (A : Option Addr) (n : Nat) (P : Nat → Pk) : Prop :=
  ∀ k, k < n → ∃ b o, A = some ⟨b, o, none⟩ ∧ b < B ∧ w.cell? ⟨b, o + k * 4, none⟩ = some (.int .i64 (P k).s) ∧ w.cell? ⟨b, o + k * 4 + 1, none⟩ = some (.int .i64 (P k).w) ∧
    w.cell? ⟨b, o + k * 4 + 2, none⟩ = some (.int .i64 (P k).o) ∧ w.cell? ⟨b, o + k * 4 + 3, none⟩ = some (.int .i64 (P k).f)
/-- a row of grades -/
def GdRow (w : World) (B : Nat) (A : Option Addr) (n : Nat) (G : Nat → Gd) : Prop :=
  ∀ k, k < n → ∃ b o, A = some ⟨b, o, none⟩ ∧ b < B ∧ w.cell? ⟨b, o + k * 2, none⟩ = some (.int .i64 (G k).foul) ∧ w.cell? ⟨b, o + k * 2 + 1, none⟩ = some (.int .i64 (G k).price)

theorem PkRow.below {w w' : World} {B : Nat} {A : Option Addr} {n : Nat} {P : Nat → Pk} (h : PkRow w B A n P) (hb : Below B w w') : PkRow w' B A n P := fun k hk => by
  obtain ⟨b, o, hA, hB, c0, c1, c2, c3⟩ := h k hk
  exact ⟨b, o, hA, hB, (hb.cell (p := ⟨b, _, none⟩) hB).trans c0, (hb.cell (p := ⟨b, _, none⟩) hB).trans c1, (hb.cell (p := ⟨b, _, none⟩) hB).trans c2, (hb.cell (p := ⟨b, _, none⟩) hB).trans c3⟩
theorem PkRow.mono {w : World} {B B' : Nat} {A : Option Addr} {n : Nat} {P : Nat → Pk} (h : PkRow w B A n P) (hb : B ≤ B') : PkRow w B' A n P := fun k hk => by
  obtain ⟨b, o, hA, hB, c⟩ := h k hk
  exact ⟨b, o, hA, Nat.lt_of_lt_of_le hB hb, c⟩
theorem GdRow.below {w w' : World} {B : Nat} {A : Option Addr} {n : Nat} {P : Nat → Gd} (h : GdRow w B A n P) (hb : Below B w w') : GdRow w' B A n P := fun k hk => by
  obtain ⟨b, o, hA, hB, c0, c1⟩ := h k hk
  exact ⟨b, o, hA, hB, (hb.cell (p := ⟨b, _, none⟩) hB).trans c0, (hb.cell (p := ⟨b, _, none⟩) hB).trans c1⟩
theorem GdRow.mono {w : World} {B B' : Nat} {A : Option Addr} {n : Nat} {P : Nat → Gd} (h : GdRow w B A n P) (hb : B ≤ B') : GdRow w B' A n P := fun k hk => by
  obtain ⟨b, o, hA, hB, c⟩ := h k hk
  exact ⟨b, o, hA, Nat.lt_of_lt_of_le hB hb, c⟩

/-- a desk in memory: its own block, and its store's rows -/
structure DeskAt (w : World) (B db : Nat) (st : St) : Prop where
  lt : db < B
  rows : ∃ pA pc gA gc, PkRow w B pA st.n st.P ∧ GdRow w B gA st.m st.G ∧ w.cell? ⟨db, 0, none⟩ = some (.slice pA st.n pc) ∧ w.cell? ⟨db, 1, none⟩ = some (.slice gA st.m gc) ∧ st.n ≤ pc ∧ st.m ≤ gc
  lots : w.cell? ⟨db, 2, none⟩ = some (.int .i64 st.lots)
  c0 : w.cell? ⟨db, 3, none⟩ = some (.int .i64 st.all.a)
  c1 : w.cell? ⟨db, 4, none⟩ = some (.int .i64 st.all.b)
  c2 : w.cell? ⟨db, 5, none⟩ = some (.int .i64 st.all.c)
  c3 : w.cell? ⟨db, 6, none⟩ = some (.int .i64 st.all.d)
theorem DeskAt.below {w w' : World} {B db : Nat} {st : St} (h : DeskAt w B db st) (hb : Below B w w') : DeskAt w' B db st := by
  obtain ⟨lt, ⟨pA, pc, gA, gc, hp, hg, a, b, c, d⟩, e, f0, f1, f2, f3⟩ := h
  exact ⟨lt, ⟨pA, pc, gA, gc, hp.below hb, hg.below hb, (hb.cell (p := ⟨db, 0, none⟩) lt).trans a, (hb.cell (p := ⟨db, 1, none⟩) lt).trans b, c, d⟩, (hb.cell (p := ⟨db, 2, none⟩) lt).trans e,
    (hb.cell (p := ⟨db, 3, none⟩) lt).trans f0, (hb.cell (p := ⟨db, 4, none⟩) lt).trans f1, (hb.cell (p := ⟨db, 5, none⟩) lt).trans f2, (hb.cell (p := ⟨db, 6, none⟩) lt).trans f3⟩
theorem DeskAt.mono {w : World} {B B' db : Nat} {st : St} (h : DeskAt w B db st) (hb : B ≤ B') : DeskAt w B' db st := by
  obtain ⟨lt, ⟨pA, pc, gA, gc, hp, hg, a⟩, r0, r1, r2, r3, r4⟩ := h
  exact ⟨Nat.lt_of_lt_of_le lt hb, ⟨pA, pc, gA, gc, hp.mono hb, hg.mono hb, a⟩, r0, r1, r2, r3, r4⟩

theorem DeskAt.later {w w' : World} {db : Nat} {st : St} (h : DeskAt w w.heap.size db st) (hb : Below w.heap.size w w') : DeskAt w' w'.heap.size db st := (h.below hb).mono hb.size

/-- a desk in memory: its rows lie below block B, its own block anywhere -/
structure DeskOf (w : World) (B db : Nat) (st : St) : Prop where
  lt : db < w.heap.size
  rows : ∃ pA pc gA gc, PkRow w B pA st.n st.P ∧ GdRow w B gA st.m st.G ∧ w.cell? ⟨db, 0, none⟩ = some (.slice pA st.n pc) ∧ w.cell? ⟨db, 1, none⟩ = some (.slice gA st.m gc) ∧ st.n ≤ pc ∧ st.m ≤ gc
  lots : w.cell? ⟨db, 2, none⟩ = some (.int .i64 st.lots)
  c0 : w.cell? ⟨db, 3, none⟩ = some (.int .i64 st.all.a)
  c1 : w.cell? ⟨db, 4, none⟩ = some (.int .i64 st.all.b)
  c2 : w.cell? ⟨db, 5, none⟩ = some (.int .i64 st.all.c)
  c3 : w.cell? ⟨db, 6, none⟩ = some (.int .i64 st.all.d)
theorem DeskOf.at {w : World} {B db : Nat} {st : St} (h : DeskOf w B db st) (hB : B ≤ w.heap.size) : DeskAt w w.heap.size db st := by
  obtain ⟨lt, ⟨pA, pc, gA, gc, hp, hg, a⟩, r0, r1, r2, r3, r4⟩ := h
  exact ⟨lt, ⟨pA, pc, gA, gc, hp.mono hB, hg.mono hB, a⟩, r0, r1, r2, r3, r4⟩
theorem DeskOf.keep {w w' : World} {B db : Nat} {st : St} (h : DeskOf w B db st) (hs : w.heap.size ≤ w'.heap.size) (hb : ∀ i, i < B ∨ i = db → w'.heap[i]? = w.heap[i]?) : DeskOf w' B db st := by
  obtain ⟨lt, ⟨pA, pc, gA, gc, hp, hg, x0, x1, x2⟩, r0, r1, r2, r3, r4⟩ := h
  have hc : ∀ o, w'.cell? ⟨db, o, none⟩ = w.cell? ⟨db, o, none⟩ := fun o => World.cell?_of_block (hb db (.inr rfl))
  refine ⟨Nat.lt_of_lt_of_le lt hs, ⟨pA, pc, gA, gc, ?_, ?_, (hc 0).trans x0, (hc 1).trans x1, x2⟩, (hc 2).trans r0, (hc 3).trans r1, (hc 4).trans r2, (hc 5).trans r3, (hc 6).trans r4⟩
  · intro k hk
    obtain ⟨b, o, hA, hB, y0, y1, y2, y3⟩ := hp k hk
    have hq : ∀ o, w'.cell? ⟨b, o, none⟩ = w.cell? ⟨b, o, none⟩ := fun o => World.cell?_of_block (hb b (.inl hB))
    exact ⟨b, o, hA, hB, (hq _).trans y0, (hq _).trans y1, (hq _).trans y2, (hq _).trans y3⟩
  · intro k hk
    obtain ⟨b, o, hA, hB, y0, y1⟩ := hg k hk
    have hq : ∀ o, w'.cell? ⟨b, o, none⟩ = w.cell? ⟨b, o, none⟩ := fun o => World.cell?_of_block (hb b (.inl hB))
    exact ⟨b, o, hA, hB, (hq _).trans y0, (hq _).trans y1⟩
theorem DeskOf.later {w w' : World} {B db : Nat} {st : St} (h : DeskOf w B db st) (hB : B ≤ w.heap.size) (hb : Below w.heap.size w w') : DeskOf w' B db st :=
  h.keep hb.size (fun i hi => hb.block i (by rcases hi with hi | rfl; exact Nat.lt_of_lt_of_le hi hB; exact h.lt))
theorem DeskOf.drew {w : World} {B db : Nat} {st : St} (h : DeskOf w B db st) : DeskOf w.drew B db st := h.keep (Nat.le_refl _) (fun _ _ => rfl)
theorem DeskOf.alloc {w : World} {B db : Nat} {st : St} (h : DeskOf w B db st) (hB : B ≤ w.heap.size) (o : Obj) : DeskOf (w.alloc o) B db st :=
  h.later hB ((Below.refl _ _).alloc (Nat.le_refl _) _)
theorem DeskOf.set {w : World} {B db : Nat} {st : St} (h : DeskOf w B db st) {p : Addr} (hp : B ≤ p.block) (hne : p.block ≠ db) (u : Value) : DeskOf (w.setCell p u) B db st :=
  h.keep (by simp [World.setCell]) (fun i hi => Below.heap_setCell w p u i (by rcases hi with hi | rfl; omega; exact Ne.symm hne))

theorem at4' {w : World} {b : Nat} {x : Bag} (h0 : w.cell? ⟨b, 0, none⟩ = some (.int .i64 x.a)) (h1 : w.cell? ⟨b, 1, none⟩ = some (.int .i64 x.b)) (h2 : w.cell? ⟨b, 2, none⟩ = some (.int .i64 x.c)) (h3 : w.cell? ⟨b, 3, none⟩ = some (.int .i64 x.d)) :
    ∀ k, k < 4 → w.cell? ⟨b, k, none⟩ = some (.int .i64 (x.at k))
  | 0, _ => h0
  | 1, _ => h1
  | 2, _ => h2
  | 3, _ => h3
  | n + 4, h => absurd h (by omega)

/-- what a function value of an end does -/
def EndOk (g : Nat) (E : Pk → Int → Int) : Prop :=
  (∀ p many W, p.rng → 0 ≤ many ∧ many ≤ p.s → Calls Tryz.prog g #[pkV p.s p.w p.o p.f, .int .i64 many] W fun e W' => e = .returned (.int .i64 (E p many)) ∧ Below W.heap.size W W') ∧
  (∀ p many, p.rng → 0 ≤ many ∧ many ≤ p.s → -100 ≤ E p many ∧ E p many ≤ 100) ∧ ∀ args w, (callFunc g args).run Tryz.prog w = .ok (.enter g args) w
theorem end_hi : EndOk 103 Pk.hiOf :=
  ⟨fun p many W h _ => hi_any p.s p.w p.o p.f many W h.1 h.2.2.1 h.2.2.2, fun p many h hm => by unfold Pk.rng at h; unfold Pk.hiOf Pk.hi; omega, enters_of Tryz.func103 (by kernel_rfl) rfl⟩
theorem end_lo : EndOk 102 Pk.loOf :=
  ⟨fun p many W h hm => lo_any p.s p.w p.o p.f many W h.1 h.2.2.1 h.2.2.2 hm, fun p many h hm => by unfold Pk.rng at h; unfold Pk.loOf; omega, enters_of Tryz.func102 (by kernel_rfl) rfl⟩

set_option maxRecDepth 100000 in
set_option maxHeartbeats 400000 in
/-- lot.desk.foul -/
theorem foul_any (g : Nat) (E : Pk → Int → Int) (hE : EndOk g E) (st : St) (hst : st.ok) (x : Bag) (db : Nat) (W : World) (hD : DeskAt W W.heap.size db st) (hx : ∀ k, k < st.n → 0 ≤ x.at k ∧ x.at k ≤ (st.P k).s) :
    Calls Tryz.prog 101 #[.pointer (some ⟨db, 0, none⟩), bagV x, .agg #[.func (.func g) #[] #[]]] W fun e W' =>
      e = .returned (.int .i64 (sumN (fun k => E (st.P k) (x.at k)) st.n)) ∧ Below W.heap.size W W' := by
  have hcf := hE.2.2
  have HE := Lib.hid hE
  have HD := Lib.hid hD
  have HX := Lib.hid hx
  have n1 := hst.n1
  have n4 := hst.n4
  have HS := Lib.hid hst
  have hlt := hD.lt
  obtain ⟨pA, pc, gA, gc, hp, hg, q0, q1, q2, q3⟩ := hD.rows
  have HP := Lib.hid hp
  clear hE hx hst hp hg hD
  have hd1 : db < W.heap.size := by omega
  have hd2 : db < W.heap.size + 1 := by omega
  go_enter Tryz.func101, Tryz.ntmps101
  go_wp2_with fail
  have bx := at4' (w := ((W.alloc (Obj.cells #[Value.int .i64 x.a, Value.int .i64 x.b, Value.int .i64 x.c, Value.int .i64 x.d] 89)).alloc (Obj.cells #[Value.func (.func g) #[] #[]] 157))) (b := W.heap.size) (x := x) (by simp [go_sem]) (by simp [go_sem]) (by simp [go_sem]) (by simp [go_sem])
  have BX := Lib.hid bx
  clear bx
  go_loopw [7, 16] (fun t i wr => ∃ k : Nat, k ≤ st.n ∧ i = .int .i64 k ∧ t = .int .i64 (sumN (fun k => E (st.P k) (x.at k)) k) ∧ Below W.heap.size W wr ∧ W.heap.size + 2 ≤ wr.heap.size ∧
      (∀ j, j < 4 → wr.cell? ⟨W.heap.size, j, none⟩ = some (.int .i64 (x.at j))) ∧ wr.cell? ⟨W.heap.size + 1, 0, none⟩ = some (.func (.func g) #[] #[])) (fun _ i _ => st.n - (intOf i).toNat)
  case atStart => exact ⟨0, Nat.zero_le _, rfl, rfl, (by repeat (first | (with_reducible exact Below.refl _ _) | (with_reducible refine Below.drew ?_) | (with_reducible refine below_drewN ?_ _) | ((with_reducible refine below_alloc ?_ ?_ _); · (first | exact Nat.le_refl _ | omega | (simp; done) | (simp; omega) | (simp at *; omega))) | ((with_reducible refine below_set ?_ ?_ _); · (first | exact Nat.le_refl _ | omega | (simp; done) | (simp; omega) | (simp at *; omega))) | ((with_reducible refine below_via (by with_reducible assumption) ?_ ?_); · (first | exact Nat.le_refl _ | omega | (simp; done) | (simp; omega) | (simp at *; omega))))), by simp, BX.out, by simp [go_sem]⟩
  case round =>
    obtain ⟨k, hk, rfl, rfl, hbw, hsz, hxs, hend⟩ := hrel
    have HXS := Lib.hid hxs
    have HBW := Lib.hid hbw
    clear hxs hbw
    by_cases hlt : k < st.n
    · obtain ⟨b, o, rfl, hb', c0, c1, c2, c3⟩ := HP.out.below HBW.out k hlt
      have hk4 : (k : Int) < 4 := by omega
      have hk0 : (0 : Int) ≤ (k : Int) := by omega
      have hxk := HXS.out k (by omega)
      have hb1 : b < wr.heap.size := by omega
      have bd1 := HE.out.2.1 _ _ (HS.out.pk k hlt) (HX.out k hlt)
      have bd2 := sumN_bdh (fun k => E (st.P k) (x.at k)) k (fun j hj => HE.out.2.1 _ _ (HS.out.pk j (by omega)) (HX.out j (by omega)))
      have hs1 : W.heap.size < wr.heap.size := by omega
      have hs2 : W.heap.size + 1 < wr.heap.size := by omega
      have hcall := Lib.hid (fun w => HE.out.1 (st.P k) (x.at k) w (HS.out.pk k hlt) (HX.out k hlt))
      go_wp2_with fail
      go_region_held3 (fun w' => w'.cell? ⟨W.heap.size, k, none⟩ = some (.int .i64 (x.at k)) ∧ w'.cell? ⟨W.heap.size + 1, 0, none⟩ = some (.func (.func g) #[] #[]) ∧ w'.cell? ⟨wr.heap.size, 0, none⟩ = some (.int .i64 (st.P k).s) ∧ w'.cell? ⟨wr.heap.size, 1, none⟩ = some (.int .i64 (st.P k).w) ∧ w'.cell? ⟨wr.heap.size, 2, none⟩ = some (.int .i64 (st.P k).o) ∧ w'.cell? ⟨wr.heap.size, 3, none⟩ = some (.int .i64 (st.P k).f)) ((go_split_ands; (repeat' refine And.intro ?_ ?_) <;> (repeat (first | (with_reducible assumption) | (simp; done) | (with_reducible refine cell_drew_of ?_) | (with_reducible refine cell_drewN_of ?_) | (with_reducible refine cell_below_of (by with_reducible assumption) ?_) | ((with_reducible refine cell_new_of ?_ ?_) <;> (first | (with_reducible rfl) | (simp; done))) | ((with_reducible refine fro_new_of ?_) <;> (first | (with_reducible rfl) | (simp; done))) | (with_reducible refine cell_alloc_of _ ?_) | (with_reducible refine cell_set_of _ (by (first | exact Nat.le_refl _ | omega | (simp; done) | (simp; omega) | (simp at *; omega))) ?_) | (with_reducible refine fro_drew_of ?_) | (with_reducible refine fro_drewN_of ?_) | (with_reducible refine fro_below_of (by with_reducible assumption) (by (first | exact Nat.le_refl _ | omega | (simp; done) | (simp; omega) | (simp at *; omega))) ?_) | (with_reducible refine fro_alloc_of _ (by (first | exact Nat.le_refl _ | omega | (simp; done) | (simp; omega) | (simp at *; omega))) ?_) | (with_reducible refine fro_set_of _ ?_))))) (first | ((refine (hcall.out _).mono ?_); rintro e w1 ⟨rfl, hb1⟩; obtain ⟨hc1, hf1⟩ := bcell hb1; have hz1 := hb1.size) | (go_at_call 59; refine (sum2n _ _ _ _ _ (by omega) (by omega)).mono ?_; rintro e w' ⟨rfl, rfl⟩))
      have hall : Below wr.heap.size wr (w1.alloc (Obj.cells #[Value.int .i64 (sumN (fun k => E (st.P k) (x.at k)) k), Value.int .i64 (E (st.P k) (x.at k))] 3)) := (by repeat (first | (with_reducible exact Below.refl _ _) | (with_reducible refine Below.drew ?_) | (with_reducible refine below_drewN ?_ _) | ((with_reducible refine below_alloc ?_ ?_ _); · (first | exact Nat.le_refl _ | omega | (simp; done) | (simp; omega) | (simp at *; omega))) | ((with_reducible refine below_set ?_ ?_ _); · (first | exact Nat.le_refl _ | omega | (simp; done) | (simp; omega) | (simp at *; omega))) | ((with_reducible refine below_via (by with_reducible assumption) ?_ ?_); · (first | exact Nat.le_refl _ | omega | (simp; done) | (simp; omega) | (simp at *; omega)))))
      have HALL := Lib.hid hall
      clear hall hc1 hf1
      go_wp2_with fail
      go_roundw
      case rel => exact ⟨k + 1, by omega, by go_num, rfl, HBW.out.trans (HALL.out.mono (by omega)), by have := HALL.out.size; omega, fun j hj => (HALL.out.cell (p := ⟨W.heap.size, j, none⟩) hs1).trans (HXS.out j hj), (HALL.out.cell (p := ⟨W.heap.size + 1, 0, none⟩) hs2).trans hend⟩
      case measure => simp [intOf]; omega
    · go_wp2_with fail
      go_ret
      exact ⟨ret_int (by rw [show k = st.n from by omega]), HBW.out⟩

set_option maxRecDepth 100000 in
set_option maxHeartbeats 400000 in
/-- lot.desk.span -/
theorem dspan_any (st : St) (hst : st.ok) (x : Bag) (db : Nat) (W : World) (hD : DeskAt W W.heap.size db st) (hx : ∀ k, k < st.n → 0 ≤ x.at k ∧ x.at k ≤ (st.P k).s) :
    Calls Tryz.prog 66 #[.pointer (some ⟨db, 0, none⟩), bagV x] W fun e W' =>
      e = .returned (.agg #[.int .i64 (st.lo x), .int .i64 (st.hi x)]) ∧ Below W.heap.size W W' := by
  have HD := Lib.hid hD
  have HX := Lib.hid hx
  have HS := Lib.hid hst
  have hd1 : db < W.heap.size := hD.lt
  clear hx hst hD
  go_enter Tryz.func66, Tryz.ntmps66
  go_wp2_with fail
  refine (ends_any _).mono ?_
  rintro e w1 ⟨rfl, hb1⟩
  obtain ⟨hc1, hf1⟩ := bcell hb1; have hz1 := hb1.size; (try simp only [World.size_drew, World.heap_drewN, World.size_alloc] at hz1)
  go_wp2_with fail
  go_region_held3 (fun w' => w'.cell? ⟨W.heap.size, 0, none⟩ = some (.int .i64 x.a) ∧ w'.cell? ⟨W.heap.size, 1, none⟩ = some (.int .i64 x.b) ∧ w'.cell? ⟨W.heap.size, 2, none⟩ = some (.int .i64 x.c) ∧ w'.cell? ⟨W.heap.size, 3, none⟩ = some (.int .i64 x.d) ∧ w'.cell? ⟨w1.heap.size, 0, none⟩ = some (.func (.func 102) #[] #[]) ∧ w'.cell? ⟨w1.heap.size + 1, 0, none⟩ = some (.func (.func 103) #[] #[])) ((go_split_ands; (repeat' refine And.intro ?_ ?_) <;> (repeat (first | (with_reducible assumption) | (simp; done) | (with_reducible refine cell_drew_of ?_) | (with_reducible refine cell_drewN_of ?_) | (with_reducible refine cell_below_of (by with_reducible assumption) ?_) | ((with_reducible refine cell_new_of ?_ ?_) <;> (first | (with_reducible rfl) | (simp; done))) | ((with_reducible refine fro_new_of ?_) <;> (first | (with_reducible rfl) | (simp; done))) | (with_reducible refine cell_alloc_of _ ?_) | (with_reducible refine cell_set_of _ (by (first | exact Nat.le_refl _ | omega | (simp; done) | (simp; omega) | (simp at *; omega))) ?_) | (with_reducible refine fro_drew_of ?_) | (with_reducible refine fro_drewN_of ?_) | (with_reducible refine fro_below_of (by with_reducible assumption) (by (first | exact Nat.le_refl _ | omega | (simp; done) | (simp; omega) | (simp at *; omega))) ?_) | (with_reducible refine fro_alloc_of _ (by (first | exact Nat.le_refl _ | omega | (simp; done) | (simp; omega) | (simp at *; omega))) ?_) | (with_reducible refine fro_set_of _ ?_))))) (first | (go_at_call 101; refine (foul_any _ _ (by first | exact end_lo | exact end_hi) st HS.out x db _ (HD.out.later (by repeat (first | (with_reducible exact Below.refl _ _) | (with_reducible refine Below.drew ?_) | (with_reducible refine below_drewN ?_ _) | ((with_reducible refine below_alloc ?_ ?_ _); · (first | exact Nat.le_refl _ | omega | (simp; done) | (simp; omega) | (simp at *; omega))) | ((with_reducible refine below_set ?_ ?_ _); · (first | exact Nat.le_refl _ | omega | (simp; done) | (simp; omega) | (simp at *; omega))) | ((with_reducible refine below_via (by with_reducible assumption) ?_ ?_); · (first | exact Nat.le_refl _ | omega | (simp; done) | (simp; omega) | (simp at *; omega)))))) HX.out).mono ?_; rintro e w2 ⟨rfl, hb2⟩; obtain ⟨hc2, hf2⟩ := bcell hb2; have hz2 := hb2.size; (try simp only [World.size_drew, World.heap_drewN, World.size_alloc] at hz2); have r0 : w2.cell? ⟨W.heap.size + 1, 0, none⟩ = some (.int .i64 0) := (by repeat (first | (with_reducible assumption) | (simp; done) | (with_reducible refine cell_drew_of ?_) | (with_reducible refine cell_drewN_of ?_) | (with_reducible refine cell_below_of (by with_reducible assumption) ?_) | ((with_reducible refine cell_new_of ?_ ?_) <;> (first | (with_reducible rfl) | (simp; done))) | ((with_reducible refine fro_new_of ?_) <;> (first | (with_reducible rfl) | (simp; done))) | (with_reducible refine cell_alloc_of _ ?_) | (with_reducible refine cell_set_of _ (by (first | exact Nat.le_refl _ | omega | (simp; done) | (simp; omega) | (simp at *; omega))) ?_) | (with_reducible refine fro_drew_of ?_) | (with_reducible refine fro_drewN_of ?_) | (with_reducible refine fro_below_of (by with_reducible assumption) (by (first | exact Nat.le_refl _ | omega | (simp; done) | (simp; omega) | (simp at *; omega))) ?_) | (with_reducible refine fro_alloc_of _ (by (first | exact Nat.le_refl _ | omega | (simp; done) | (simp; omega) | (simp at *; omega))) ?_) | (with_reducible refine fro_set_of _ ?_))); have r1 : w2.cell? ⟨W.heap.size + 1, 1, none⟩ = some (.int .i64 0) := (by repeat (first | (with_reducible assumption) | (simp; done) | (with_reducible refine cell_drew_of ?_) | (with_reducible refine cell_drewN_of ?_) | (with_reducible refine cell_below_of (by with_reducible assumption) ?_) | ((with_reducible refine cell_new_of ?_ ?_) <;> (first | (with_reducible rfl) | (simp; done))) | ((with_reducible refine fro_new_of ?_) <;> (first | (with_reducible rfl) | (simp; done))) | (with_reducible refine cell_alloc_of _ ?_) | (with_reducible refine cell_set_of _ (by (first | exact Nat.le_refl _ | omega | (simp; done) | (simp; omega) | (simp at *; omega))) ?_) | (with_reducible refine fro_drew_of ?_) | (with_reducible refine fro_drewN_of ?_) | (with_reducible refine fro_below_of (by with_reducible assumption) (by (first | exact Nat.le_refl _ | omega | (simp; done) | (simp; omega) | (simp at *; omega))) ?_) | (with_reducible refine fro_alloc_of _ (by (first | exact Nat.le_refl _ | omega | (simp; done) | (simp; omega) | (simp at *; omega))) ?_) | (with_reducible refine fro_set_of _ ?_))); have f0 : w2.frozen? ⟨W.heap.size + 1, 0, none⟩ = false := (by repeat (first | (with_reducible assumption) | (simp; done) | (with_reducible refine cell_drew_of ?_) | (with_reducible refine cell_drewN_of ?_) | (with_reducible refine cell_below_of (by with_reducible assumption) ?_) | ((with_reducible refine cell_new_of ?_ ?_) <;> (first | (with_reducible rfl) | (simp; done))) | ((with_reducible refine fro_new_of ?_) <;> (first | (with_reducible rfl) | (simp; done))) | (with_reducible refine cell_alloc_of _ ?_) | (with_reducible refine cell_set_of _ (by (first | exact Nat.le_refl _ | omega | (simp; done) | (simp; omega) | (simp at *; omega))) ?_) | (with_reducible refine fro_drew_of ?_) | (with_reducible refine fro_drewN_of ?_) | (with_reducible refine fro_below_of (by with_reducible assumption) (by (first | exact Nat.le_refl _ | omega | (simp; done) | (simp; omega) | (simp at *; omega))) ?_) | (with_reducible refine fro_alloc_of _ (by (first | exact Nat.le_refl _ | omega | (simp; done) | (simp; omega) | (simp at *; omega))) ?_) | (with_reducible refine fro_set_of _ ?_))); have f1 : w2.frozen? ⟨W.heap.size + 1, 1, none⟩ = false := (by repeat (first | (with_reducible assumption) | (simp; done) | (with_reducible refine cell_drew_of ?_) | (with_reducible refine cell_drewN_of ?_) | (with_reducible refine cell_below_of (by with_reducible assumption) ?_) | ((with_reducible refine cell_new_of ?_ ?_) <;> (first | (with_reducible rfl) | (simp; done))) | ((with_reducible refine fro_new_of ?_) <;> (first | (with_reducible rfl) | (simp; done))) | (with_reducible refine cell_alloc_of _ ?_) | (with_reducible refine cell_set_of _ (by (first | exact Nat.le_refl _ | omega | (simp; done) | (simp; omega) | (simp at *; omega))) ?_) | (with_reducible refine fro_drew_of ?_) | (with_reducible refine fro_drewN_of ?_) | (with_reducible refine fro_below_of (by with_reducible assumption) (by (first | exact Nat.le_refl _ | omega | (simp; done) | (simp; omega) | (simp at *; omega))) ?_) | (with_reducible refine fro_alloc_of _ (by (first | exact Nat.le_refl _ | omega | (simp; done) | (simp; omega) | (simp at *; omega))) ?_) | (with_reducible refine fro_set_of _ ?_)))))
  clear hc1 hf1
  go_wp2_with fail
  exact bodyPost_ret (v := .agg #[.int .i64 (st.lo x), .int .i64 (st.hi x)]) (by simp [results, Tryz.results66, go_sem, r0, r1, St.lo, St.hi]) rfl ⟨rfl, (by repeat (first | (with_reducible exact Below.refl _ _) | (with_reducible refine Below.drew ?_) | (with_reducible refine below_drewN ?_ _) | ((with_reducible refine below_alloc ?_ ?_ _); · (first | exact Nat.le_refl _ | omega | (simp; done) | (simp; omega) | (simp at *; omega))) | ((with_reducible refine below_set ?_ ?_ _); · (first | exact Nat.le_refl _ | omega | (simp; done) | (simp; omega) | (simp at *; omega))) | ((with_reducible refine below_via (by with_reducible assumption) ?_ ?_); · (first | exact Nat.le_refl _ | omega | (simp; done) | (simp; omega) | (simp at *; omega)))))⟩
end Go.Proofs.YtmbkngfcbgbeiaaGreat
