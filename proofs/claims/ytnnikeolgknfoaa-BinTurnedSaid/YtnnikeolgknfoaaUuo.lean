/- BinTurned: the joined statement. -/
import Derived.Test.YtnnikeolgknfoaaUun
import Derived.Test.YtnnikeolgknfoaaUum
import Derived.Deep.CutBlock
import Derived.Test.YtnnikeolgknfoaaRows
import Derived.Test.YtnnikeolgknfoaaPo
import Derived.Test.YtnnikeolgknfoaaPr
set_option linter.unusedSimpArgs false
set_option linter.unusedVariables false
namespace Go.Proofs.Ytnnikeolgknfoaa
open Go.RowKit Go.Shelf

theorem OAt.ix {w : World} {lo ox : Nat} {r : Rw} (hr : r.ok) {bA : Option Addr} {bc : Nat} {dA : Option Addr} {dc : Nat} {vA : Option Addr} {vc : Nat} (h : OAt w lo ox r.n r.d r.m r.D bA bc dA dc vA vc r.mir.B r.mir.V) : RowIx w ox r.mir :=
  ⟨bA, dA, vA, bc, dc, vc, ⟨h.o.c0, h.o.c1, h.o.c2⟩, ⟨Nat.le_refl _, h.b.row, h.dd.row, h.v.row, by show r.n ≤ 1000; have := hr.n6; omega, by show r.d ≤ 1000; have := hr.d7; omega, by show r.m ≤ 1000; have := hr.m10; omega, h.cp.1, h.cp.2.1, h.cp.2.2⟩⟩
def natN (l : List Nat) (er : Int) : Nat := if er = 0 then l.length else 0
theorem nat_post {l : List Nat} {er : Int} {W W' : World} {e : Ending} (h : NatPost l er W e W') : ∃ A c, e = .returned (.tuple #[.slice A (natN l er) c, .int .i64 er]) ∧ IntRow W' W'.heap.size A (natN l er) (numOf l) ∧ Below W.heap.size W W' := by
  by_cases he : er = 0
  · obtain ⟨A, c, e0, hr, hb⟩ := nat_of h he
    have hn : natN l er = l.length := if_pos he
    rw [hn, he]
    exact ⟨A, c, e0, hr, hb⟩
  · have hn : natN l er = 0 := if_neg he
    rcases h with ⟨h0, _⟩ | ⟨_, e0, hb⟩
    · exact absurd h0 he
    · rw [hn]
      exact ⟨none, 0, e0, fun k hk => absurd hk (by omega), hb⟩
theorem alike_same (A C : Option Addr) (n ca cc : Nat) (X : Nat → Int) (W : World) (hA : IntRow W W.heap.size A n X) (hC : IntRow W W.heap.size C n X) (hn : n ≤ 1000) :
    Calls Try.prog 35 #[.slice A n ca, .slice C n cc] W fun e W' => e = .returned (.bool true) ∧ Below W.heap.size W W' := by
  refine (alike_int A C n n ca cc X X W hA hC hn).mono ?_
  rintro e w ⟨rfl, hb⟩
  have h : allN (fun k => decide (X k = X k)) n = true := allN_iff.2 (fun k _ => by simp)
  refine ⟨?_, hb⟩
  rw [h]
  simp
theorem natN_bd {r : Rw} {l : List Nat} {er : Int} (h : l.length ≤ r.m) (hr : r.ok) : natN l er ≤ 1000 := by
  have := hr.m10
  unfold natN
  split <;> omega
theorem V3.new' (w : World) (t : TypeId) (x y z : Value) : V3 (w.alloc (.cells #[x, y, z] t)) w.heap.size x y z := ⟨(by (repeat' refine And.intro ?_ ?_) <;> (repeat (first | with_reducible assumption | (simp; done) | (with_reducible first | refine Kd ?_ | refine Kn ?_ | refine Kb (by assumption) ?_) | ((with_reducible first | refine Kw ?_ ?_ | refine Fw ?_) <;> first | with_reducible rfl | (simp; done)) | (with_reducible first | refine Ka _ ?_ | refine Ks _ (by first | exact Nat.le_refl _ | omega | (simp; done) | (simp; omega)) ?_ | refine Fd ?_ | refine Fn ?_ | refine Fb (by assumption) (by first | exact Nat.le_refl _ | omega | (simp; done) | (simp; omega)) ?_ | refine Fa _ (by first | exact Nat.le_refl _ | omega | (simp; done) | (simp; omega)) ?_ | refine Fs _ ?_)))), (by (repeat' refine And.intro ?_ ?_) <;> (repeat (first | with_reducible assumption | (simp; done) | (with_reducible first | refine Kd ?_ | refine Kn ?_ | refine Kb (by assumption) ?_) | ((with_reducible first | refine Kw ?_ ?_ | refine Fw ?_) <;> first | with_reducible rfl | (simp; done)) | (with_reducible first | refine Ka _ ?_ | refine Ks _ (by first | exact Nat.le_refl _ | omega | (simp; done) | (simp; omega)) ?_ | refine Fd ?_ | refine Fn ?_ | refine Fb (by assumption) (by first | exact Nat.le_refl _ | omega | (simp; done) | (simp; omega)) ?_ | refine Fa _ (by first | exact Nat.le_refl _ | omega | (simp; done) | (simp; omega)) ?_ | refine Fs _ ?_)))), (by (repeat' refine And.intro ?_ ?_) <;> (repeat (first | with_reducible assumption | (simp; done) | (with_reducible first | refine Kd ?_ | refine Kn ?_ | refine Kb (by assumption) ?_) | ((with_reducible first | refine Kw ?_ ?_ | refine Fw ?_) <;> first | with_reducible rfl | (simp; done)) | (with_reducible first | refine Ka _ ?_ | refine Ks _ (by first | exact Nat.le_refl _ | omega | (simp; done) | (simp; omega)) ?_ | refine Fd ?_ | refine Fn ?_ | refine Fb (by assumption) (by first | exact Nat.le_refl _ | omega | (simp; done) | (simp; omega)) ?_ | refine Fa _ (by first | exact Nat.le_refl _ | omega | (simp; done) | (simp; omega)) ?_ | refine Fs _ ?_)))), (by (repeat' refine And.intro ?_ ?_) <;> (repeat (first | with_reducible assumption | (simp; done) | (with_reducible first | refine Kd ?_ | refine Kn ?_ | refine Kb (by assumption) ?_) | ((with_reducible first | refine Kw ?_ ?_ | refine Fw ?_) <;> first | with_reducible rfl | (simp; done)) | (with_reducible first | refine Ka _ ?_ | refine Ks _ (by first | exact Nat.le_refl _ | omega | (simp; done) | (simp; omega)) ?_ | refine Fd ?_ | refine Fn ?_ | refine Fb (by assumption) (by first | exact Nat.le_refl _ | omega | (simp; done) | (simp; omega)) ?_ | refine Fa _ (by first | exact Nat.le_refl _ | omega | (simp; done) | (simp; omega)) ?_ | refine Fs _ ?_)))), (by (repeat' refine And.intro ?_ ?_) <;> (repeat (first | with_reducible assumption | (simp; done) | (with_reducible first | refine Kd ?_ | refine Kn ?_ | refine Kb (by assumption) ?_) | ((with_reducible first | refine Kw ?_ ?_ | refine Fw ?_) <;> first | with_reducible rfl | (simp; done)) | (with_reducible first | refine Ka _ ?_ | refine Ks _ (by first | exact Nat.le_refl _ | omega | (simp; done) | (simp; omega)) ?_ | refine Fd ?_ | refine Fn ?_ | refine Fb (by assumption) (by first | exact Nat.le_refl _ | omega | (simp; done) | (simp; omega)) ?_ | refine Fa _ (by first | exact Nat.le_refl _ | omega | (simp; done) | (simp; omega)) ?_ | refine Fs _ ?_)))), (by (repeat' refine And.intro ?_ ?_) <;> (repeat (first | with_reducible assumption | (simp; done) | (with_reducible first | refine Kd ?_ | refine Kn ?_ | refine Kb (by assumption) ?_) | ((with_reducible first | refine Kw ?_ ?_ | refine Fw ?_) <;> first | with_reducible rfl | (simp; done)) | (with_reducible first | refine Ka _ ?_ | refine Ks _ (by first | exact Nat.le_refl _ | omega | (simp; done) | (simp; omega)) ?_ | refine Fd ?_ | refine Fn ?_ | refine Fb (by assumption) (by first | exact Nat.le_refl _ | omega | (simp; done) | (simp; omega)) ?_ | refine Fa _ (by first | exact Nat.le_refl _ | omega | (simp; done) | (simp; omega)) ?_ | refine Fs _ ?_))))⟩
theorem spo_close {W w : World} {z : Nat} {r : Rw} {bA dA vA : Option Addr} {bc dc vc : Nat} (v : V3 w z (.slice none 0 0) (.slice none 0 0) (.slice none 0 0)) (hr : RwRow w w.heap.size r bA bc dA dc vA vc) (hne : ∀ a, bA = some a ∨ dA = some a ∨ vA = some a → a.block ≠ z) (hb : Below W.heap.size W w) (hz : W.heap.size ≤ z) :
    RwAt (((w.setCell ⟨z, 0, none⟩ (.slice bA r.n bc)).setCell ⟨z, 1, none⟩ (.slice dA r.d dc)).setCell ⟨z, 2, none⟩ (.slice vA r.m vc)) z r bA bc dA dc vA vc ∧ RwRow (((w.setCell ⟨z, 0, none⟩ (.slice bA r.n bc)).setCell ⟨z, 1, none⟩ (.slice dA r.d dc)).setCell ⟨z, 2, none⟩ (.slice vA r.m vc)) (((w.setCell ⟨z, 0, none⟩ (.slice bA r.n bc)).setCell ⟨z, 1, none⟩ (.slice dA r.d dc)).setCell ⟨z, 2, none⟩ (.slice vA r.m vc)).heap.size r bA bc dA dc vA vc ∧ Below W.heap.size W (((w.setCell ⟨z, 0, none⟩ (.slice bA r.n bc)).setCell ⟨z, 1, none⟩ (.slice dA r.d dc)).setCell ⟨z, 2, none⟩ (.slice vA r.m vc)) := by
  have h3 := ((v.set0 (.slice bA r.n bc)).set1 (.slice dA r.d dc)).set2 (.slice vA r.m vc)
  exact ⟨⟨h3.c0, h3.c1, h3.c2⟩, hr.keepS (fun a ha => by
    have h1 := hne a ha
    exact (set_heap _ (by exact h1)).trans ((set_heap _ (by exact h1)).trans (set_heap _ (by exact h1)))) (by simp [World.setCell]) (Nat.le_refl _), ((hb.setCell (by exact hz) _).setCell (by exact hz) _).setCell (by exact hz) _⟩

set_option maxRecDepth 100000 in
set_option maxHeartbeats 8000000 in
theorem turned_law (nA : Option Addr) (nn nc : Nat) (tA : Option Addr) (tn tc : Nat) (W : World) (hby : ByIn W W.heap.size nA nn) (hln : nn ≤ 9223372036854775807) (hby2 : ByIn W W.heap.size tA tn) (hln2 : tn ≤ 9223372036854775807) :
    Calls Try.prog 7 #[.slice nA nn nc, .slice tA tn tc] W fun e W' => e = .returned (.bool true) ∧ Below W.heap.size W W' := by
  have HBY := Lib.hid hby
  have HBY2 := Lib.hid hby2
  clear hby hby2
  go_enter Try.func7, Try.ntmps7
  go_wp2_with fail
  refine (fill_any W.heap.size nA nn nc _ (Nat.le_refl _) HBY.out).mono ?_
  rintro e w1 ⟨cb, rfl, hcb, hb1, hch⟩
  have HB1 := Lib.hid hb1
  have HC1 := Lib.hid hch
  have hs1 := hb1.size
  have hcl : cb < w1.heap.size := by
    obtain ⟨u, z, _, h⟩ := hch
    exact h.lt
  clear hb1 hch
  go_wp2_with fail
  refine (made_any 5 5 (by omega) (by omega) W.heap.size cb nA nn nc hln _ hs1 hcl HC1.out).mono ?_
  rintro e w2 ⟨r0, X, bA, dA, vA, xA, bc, dc, vc, xc, rfl, hmd, hob, hod, hov, hox, ⟨hbc, hdc, hvc, hxc⟩, hg2, hc2⟩
  have hok := hmd.ok (by omega) (by omega)
  have HOK := Lib.hid hok
  have hd1 := hmd.d.1
  have HB2 := Lib.hid (HB1.out.trans (gb_below hg2 hs1 hcb))
  have HR2 : Hid (RwRow w2 w2.heap.size r0 bA bc dA dc vA vc) := Lib.hid ⟨Nat.le_refl _, hob.row, hod.row, hov.row, by have := hok.n6; omega, by have := hok.d7; omega, by have := hok.m10; omega, hbc, hdc, hvc⟩
  have hs2 := HB2.out.size
  clear hmd hob hod hov hox hg2 hc2 hok HB1 HC1 HBY hs1 hcl hcb hbc hdc hvc
  go_upto_region 2 with fail
  refine wp_world (fun w' => RwAt w' w2.heap.size r0 bA bc dA dc vA vc ∧ Below w2.heap.size w2 w' ∧ w2.heap.size + 1 ≤ w'.heap.size) ⟨⟨(by (repeat' refine And.intro ?_ ?_) <;> (repeat (first | with_reducible assumption | (simp; done) | (with_reducible first | refine Kd ?_ | refine Kn ?_ | refine Kb (by assumption) ?_) | ((with_reducible first | refine Kw ?_ ?_ | refine Fw ?_) <;> first | with_reducible rfl | (simp; done)) | (with_reducible first | refine Ka _ ?_ | refine Ks _ (by first | exact Nat.le_refl _ | omega | (simp; done) | (simp; omega)) ?_ | refine Fd ?_ | refine Fn ?_ | refine Fb (by assumption) (by first | exact Nat.le_refl _ | omega | (simp; done) | (simp; omega)) ?_ | refine Fa _ (by first | exact Nat.le_refl _ | omega | (simp; done) | (simp; omega)) ?_ | refine Fs _ ?_)))), (by (repeat' refine And.intro ?_ ?_) <;> (repeat (first | with_reducible assumption | (simp; done) | (with_reducible first | refine Kd ?_ | refine Kn ?_ | refine Kb (by assumption) ?_) | ((with_reducible first | refine Kw ?_ ?_ | refine Fw ?_) <;> first | with_reducible rfl | (simp; done)) | (with_reducible first | refine Ka _ ?_ | refine Ks _ (by first | exact Nat.le_refl _ | omega | (simp; done) | (simp; omega)) ?_ | refine Fd ?_ | refine Fn ?_ | refine Fb (by assumption) (by first | exact Nat.le_refl _ | omega | (simp; done) | (simp; omega)) ?_ | refine Fa _ (by first | exact Nat.le_refl _ | omega | (simp; done) | (simp; omega)) ?_ | refine Fs _ ?_)))), (by (repeat' refine And.intro ?_ ?_) <;> (repeat (first | with_reducible assumption | (simp; done) | (with_reducible first | refine Kd ?_ | refine Kn ?_ | refine Kb (by assumption) ?_) | ((with_reducible first | refine Kw ?_ ?_ | refine Fw ?_) <;> first | with_reducible rfl | (simp; done)) | (with_reducible first | refine Ka _ ?_ | refine Ks _ (by first | exact Nat.le_refl _ | omega | (simp; done) | (simp; omega)) ?_ | refine Fd ?_ | refine Fn ?_ | refine Fb (by assumption) (by first | exact Nat.le_refl _ | omega | (simp; done) | (simp; omega)) ?_ | refine Fa _ (by first | exact Nat.le_refl _ | omega | (simp; done) | (simp; omega)) ?_ | refine Fs _ ?_))))⟩, (by repeat (first | (with_reducible first | exact Below.refl _ _ | assumption | refine Below.drew ?_) | ((with_reducible first | refine Lc ?_ ?_ _ | refine Ls ?_ ?_ _ | refine Lv (by assumption) ?_ ?_); · first | exact Nat.le_refl _ | omega | (dsimp only; omega) | (simp only [World.size_alloc, World.size_drew, World.heap_drewN]; omega) | (simp; omega)))), by simp⟩ ?_
  rintro w3 ⟨hx3, hb3, hs3⟩
  have HR3 := Lib.hid (HR2.out.on hb3)
  have HB3 := Lib.hid (HB2.out.trans (hb3.mono hs2))
  have hs3' := HB3.out.size
  obtain ⟨c0, c1, c2⟩ := hx3
  obtain ⟨rx, hrx⟩ : ∃ rx, rx = w2.heap.size := ⟨_, rfl⟩
  rw [← hrx] at hs3 c0 c1 c2 hs2
  rw [← hrx]
  clear hb3 HR2 HB2 hrx
  go_cut [7] (fun s7 wx => ∃ (rb : Nat) (r : Rw) (bA dA vA : Option Addr) (bc dc vc : Nat), s7 = .pointer (some ⟨rb, 0, none⟩) ∧ Hid r.ok ∧ 1 ≤ r.d ∧ Hid (RwAt wx rb r bA bc dA dc vA vc ∧ RwRow wx wx.heap.size r bA bc dA dc vA vc ∧ Below W.heap.size W wx))
  case first =>
    go_region_held3 (fun w' => w'.cell? ⟨rx, 0, none⟩ = some (.slice bA r0.n bc) ∧ w'.cell? ⟨rx, 1, none⟩ = some (.slice dA r0.d dc) ∧ w'.cell? ⟨rx, 2, none⟩ = some (.slice vA r0.m vc)) ((go_split_ands; (repeat' refine And.intro ?_ ?_) <;> (repeat (first | with_reducible assumption | (simp; done) | (with_reducible first | refine Kd ?_ | refine Kn ?_ | refine Kb (by assumption) ?_) | ((with_reducible first | refine Kw ?_ ?_ | refine Fw ?_) <;> first | with_reducible rfl | (simp; done)) | (with_reducible first | refine Ka _ ?_ | refine Ks _ (by first | exact Nat.le_refl _ | omega | (simp; done) | (simp; omega)) ?_ | refine Fd ?_ | refine Fn ?_ | refine Fb (by assumption) (by first | exact Nat.le_refl _ | omega | (simp; done) | (simp; omega)) ?_ | refine Fa _ (by first | exact Nat.le_refl _ | omega | (simp; done) | (simp; omega)) ?_ | refine Fs _ ?_))))) (first | (go_at_call 9; refine (fill_any W.heap.size tA tn tc _ (by (first | omega | (simp only [World.size_alloc, World.size_drew]; omega) | (simp; done) | (simp; omega))) (HBY2.out.later (HB3.out.trans (show Below W.heap.size w3 _ from ((show Below w3.heap.size w3 _ from (by repeat (first | (with_reducible first | exact Below.refl _ _ | assumption | refine Below.drew ?_) | ((with_reducible first | refine Lc ?_ ?_ _ | refine Ls ?_ ?_ _ | refine Lv (by assumption) ?_ ?_); · first | exact Nat.le_refl _ | omega | (dsimp only; omega) | (simp only [World.size_alloc, World.size_drew, World.heap_drewN]; omega) | (simp; omega))))).mono hs3'))))).mono ?_; rintro e wa ⟨qb, rfl, hqb, hba, hch⟩; have hza := hba.size; (try simp only [World.size_drew, World.heap_drewN, World.size_alloc] at hza hqb); have hql : qb < wa.heap.size := (by obtain ⟨u, z, _, h⟩ := hch; exact h.lt); have HB3a := Lib.hid (show Below w3.heap.size w3 wa from (by repeat (first | (with_reducible first | exact Below.refl _ _ | assumption | refine Below.drew ?_) | ((with_reducible first | refine Lc ?_ ?_ _ | refine Ls ?_ ?_ _ | refine Lv (by assumption) ?_ ?_); · first | exact Nat.le_refl _ | omega | (dsimp only; omega) | (simp only [World.size_alloc, World.size_drew, World.heap_drewN]; omega) | (simp; omega))))); (try (refine lay_in (A := ((wa.cell? ⟨w3.heap.size, 0, none⟩ = some (.slice none 0 0) ∧ wa.cell? ⟨w3.heap.size, 1, none⟩ = some (.slice none 0 0) ∧ wa.cell? ⟨w3.heap.size, 2, none⟩ = some (.slice none 0 0)) ∧ wa.frozen? ⟨w3.heap.size, 0, none⟩ = false ∧ wa.frozen? ⟨w3.heap.size, 1, none⟩ = false ∧ wa.frozen? ⟨w3.heap.size, 2, none⟩ = false)) ?_ ?_; (· ((go_split_ands; (repeat' refine And.intro ?_ ?_) <;> (repeat (first | with_reducible assumption | (simp; done) | (with_reducible first | refine Kd ?_ | refine Kn ?_ | refine Kb (by assumption) ?_) | ((with_reducible first | refine Kw ?_ ?_ | refine Fw ?_) <;> first | with_reducible rfl | (simp; done)) | (with_reducible first | refine Ka _ ?_ | refine Ks _ (by first | exact Nat.le_refl _ | omega | (simp; done) | (simp; omega)) ?_ | refine Fd ?_ | refine Fn ?_ | refine Fb (by assumption) (by first | exact Nat.le_refl _ | omega | (simp; done) | (simp; omega)) ?_ | refine Fa _ (by first | exact Nat.le_refl _ | omega | (simp; done) | (simp; omega)) ?_ | refine Fs _ ?_)))))); rintro ⟨⟨v0, v1, v2⟩, g0, g1, g2⟩))) | (go_at_call 30; refine (spoiled_any 2 (by omega) r0 HOK.out hd1 bA dA vA bc dc vc W.heap.size qb tA tn tc hln2 _ (by (first | omega | (simp only [World.size_alloc, World.size_drew]; omega) | (simp; done) | (simp; omega))) (by (first | omega | (simp only [World.size_alloc, World.size_drew]; omega) | (simp; done) | (simp; omega))) (hch.later (by repeat (first | (with_reducible first | exact Below.refl _ _ | assumption | refine Below.drew ?_) | ((with_reducible first | refine Lc ?_ ?_ _ | refine Ls ?_ ?_ _ | refine Lv (by assumption) ?_ ?_); · first | exact Nat.le_refl _ | omega | (dsimp only; omega) | (simp only [World.size_alloc, World.size_drew, World.heap_drewN]; omega) | (simp; omega))))) ((HR3.out.on HB3a.out).on (show Below wa.heap.size wa _ from (by repeat (first | (with_reducible first | exact Below.refl _ _ | assumption | refine Below.drew ?_) | ((with_reducible first | refine Lc ?_ ?_ _ | refine Ls ?_ ?_ _ | refine Lv (by assumption) ?_ ?_); · first | exact Nat.le_refl _ | omega | (dsimp only; omega) | (simp only [World.size_alloc, World.size_drew, World.heap_drewN]; omega) | (simp; omega))))))).mono ?_; rintro e ws ⟨r, bA', dA', vA', bc', dc', vc', rfl, hrn, hrd, hrm, hro, hrr, hrl, hgs, hcs⟩; have HRN := Lib.hid (And.intro hrn (And.intro hrd hrm)); clear hrn hrd hrm; have hzs := hgs.size; (try simp only [World.size_drew, World.heap_drewN, World.size_alloc] at hzs hrl); have c0s : ws.cell? ⟨rx, 0, none⟩ = some (.slice bA r0.n bc) := (by refine (hgs.cell_far _ ?_ ?_).trans ?_; (· (first | omega | (simp only [World.size_alloc, World.size_drew]; omega) | (simp; done) | (simp; omega))); (· (intro e; injection e with e; (try dsimp only at e); omega)); (· (repeat (first | with_reducible assumption | (simp; done) | (with_reducible first | refine Kd ?_ | refine Kn ?_ | refine Kb (by assumption) ?_) | ((with_reducible first | refine Kw ?_ ?_ | refine Fw ?_) <;> first | with_reducible rfl | (simp; done)) | (with_reducible first | refine Ka _ ?_ | refine Ks _ (by first | exact Nat.le_refl _ | omega | (simp; done) | (simp; omega)) ?_ | refine Fd ?_ | refine Fn ?_ | refine Fb (by assumption) (by first | exact Nat.le_refl _ | omega | (simp; done) | (simp; omega)) ?_ | refine Fa _ (by first | exact Nat.le_refl _ | omega | (simp; done) | (simp; omega)) ?_ | refine Fs _ ?_))))); have c1s : ws.cell? ⟨rx, 1, none⟩ = some (.slice dA r0.d dc) := (by refine (hgs.cell_far _ ?_ ?_).trans ?_; (· (first | omega | (simp only [World.size_alloc, World.size_drew]; omega) | (simp; done) | (simp; omega))); (· (intro e; injection e with e; (try dsimp only at e); omega)); (· (repeat (first | with_reducible assumption | (simp; done) | (with_reducible first | refine Kd ?_ | refine Kn ?_ | refine Kb (by assumption) ?_) | ((with_reducible first | refine Kw ?_ ?_ | refine Fw ?_) <;> first | with_reducible rfl | (simp; done)) | (with_reducible first | refine Ka _ ?_ | refine Ks _ (by first | exact Nat.le_refl _ | omega | (simp; done) | (simp; omega)) ?_ | refine Fd ?_ | refine Fn ?_ | refine Fb (by assumption) (by first | exact Nat.le_refl _ | omega | (simp; done) | (simp; omega)) ?_ | refine Fa _ (by first | exact Nat.le_refl _ | omega | (simp; done) | (simp; omega)) ?_ | refine Fs _ ?_))))); have c2s : ws.cell? ⟨rx, 2, none⟩ = some (.slice vA r0.m vc) := (by refine (hgs.cell_far _ ?_ ?_).trans ?_; (· (first | omega | (simp only [World.size_alloc, World.size_drew]; omega) | (simp; done) | (simp; omega))); (· (intro e; injection e with e; (try dsimp only at e); omega)); (· (repeat (first | with_reducible assumption | (simp; done) | (with_reducible first | refine Kd ?_ | refine Kn ?_ | refine Kb (by assumption) ?_) | ((with_reducible first | refine Kw ?_ ?_ | refine Fw ?_) <;> first | with_reducible rfl | (simp; done)) | (with_reducible first | refine Ka _ ?_ | refine Ks _ (by first | exact Nat.le_refl _ | omega | (simp; done) | (simp; omega)) ?_ | refine Fd ?_ | refine Fn ?_ | refine Fb (by assumption) (by first | exact Nat.le_refl _ | omega | (simp; done) | (simp; omega)) ?_ | refine Fa _ (by first | exact Nat.le_refl _ | omega | (simp; done) | (simp; omega)) ?_ | refine Fs _ ?_))))); (try (have sA : ws.heap[w3.heap.size]? = wa.heap[w3.heap.size]? := hgs.block _ (by (first | omega | (simp only [World.size_alloc, World.size_drew]; omega) | (simp; done) | (simp; omega))) (fun e => by injection e with e; omega); have VA : V3 ws w3.heap.size (.slice none 0 0) (.slice none 0 0) (.slice none 0 0) := ⟨cell_same sA v0, cell_same sA v1, cell_same sA v2, fro_same sA g0, fro_same sA g1, fro_same sA g2⟩; obtain ⟨b0, b1, b2, k0, k1, k2⟩ := VA)); (try (have VB := (V3.new' wa 27 (.slice none 0 0) (.slice none 0 0) (.slice none 0 0)).same (hgs.block _ (by (first | omega | (simp only [World.size_alloc, World.size_drew]; omega) | (simp; done) | (simp; omega))) (fun e => by injection e with e; omega)); obtain ⟨b0, b1, b2, k0, k1, k2⟩ := VB))) | fail)
    all_goals
      have hlow : Below W.heap.size W wa := HB3.out.trans (HB3a.out.mono hs3')
      have hrd1 : 1 ≤ r.d := by have := HRN.out.2.1; omega
      have hq1 : W.heap.size ≤ qb := by omega
      go_wp2_with fail
      go_meet
      first
        | exact ⟨w3.heap.size, r, _, _, _, _, _, _, rfl, Lib.hid hro, hrd1, Lib.hid (spo_close ⟨b0, b1, b2, k0, k1, k2⟩ hrr (fun a ha => by have := hrl a ha; omega) (hlow.trans (gb_below hgs (by omega) hq1)) hs3')⟩
        | exact ⟨wa.heap.size, r, _, _, _, _, _, _, rfl, Lib.hid hro, hrd1, Lib.hid (spo_close ⟨b0, b1, b2, k0, k1, k2⟩ hrr (fun a ha => by have := hrl a ha; omega) ((hlow.alloc (by omega) _).trans (gb_below hgs (by simp; omega) hq1)) (by omega))⟩
        | exact ⟨ws.heap.size, r, _, _, _, _, _, _, rfl, Lib.hid hro, hrd1, Lib.hid ⟨⟨(V3.new' ws 27 _ _ _).c0, (V3.new' ws 27 _ _ _).c1, (V3.new' ws 27 _ _ _).c2⟩, hrr.on ((Below.refl _ ws).alloc (Nat.le_refl _) _), (hlow.trans (gb_below hgs (by omega) hq1)).alloc (by omega) _⟩⟩
  case rest =>
    obtain ⟨rb, r, bA1, dA1, vA1, bc1, dc1, vc1, rfl, HO, hrd1, HX⟩ := hcut
    clear HR3 HB3 HBY2 HOK c0 c1 c2
    have hn1 := HO.out.n1
    have hn6 := HO.out.n6
    obtain ⟨c0, c1, c2⟩ := HX.out.1
    have hsW := HX.out.2.2.size
    go_wp2_with fail
    refine (own2_any r hn1 hrd1 bA1 dA1 vA1 bc1 dc1 vc1 _ HX.out.2.1).mono ?_
    intro e w11 hpost
    obtain ⟨c, rfl, hc, hcs, hce, hb11⟩ := CpAt.of hn1 hrd1 hpost
    have HC11 := Lib.hid hc
    have HA11 := Lib.hid (HX.out.1.later hb11)
    have hrbl : rb < wc.heap.size := HX.out.1.lt
    obtain ⟨lo, hlo⟩ : ∃ x, x = wc.heap.size := ⟨_, rfl⟩
    have HR11 : Hid (RwRow w11 lo r bA1 bc1 dA1 dc1 vA1 vc1) := Lib.hid (by rw [hlo]; exact HX.out.2.1.later hb11)
    have HB11 := Lib.hid (HX.out.2.2.trans (hb11.mono hsW))
    have hs11 := HB11.out.size
    have hlo11 : lo ≤ w11.heap.size ∧ c.s = lo ∧ c.e ≤ w11.heap.size ∧ rb < lo ∧ W.heap.size ≤ lo := by have := hb11.size; omega
    clear hpost hc hcs hce hb11 HX c0 c1 c2 hlo hrbl
    go_upto_region 5 with fail
    refine wp_world (fun w' => V3 w' w11.heap.size (.slice c.bA r.n c.bc) (.slice c.dA r.d c.dc) (.slice c.vA r.m c.vc) ∧ Below w11.heap.size w11 w' ∧ w11.heap.size + 1 ≤ w'.heap.size) ⟨⟨(by (repeat' refine And.intro ?_ ?_) <;> (repeat (first | with_reducible assumption | (simp; done) | (with_reducible first | refine Kd ?_ | refine Kn ?_ | refine Kb (by assumption) ?_) | ((with_reducible first | refine Kw ?_ ?_ | refine Fw ?_) <;> first | with_reducible rfl | (simp; done)) | (with_reducible first | refine Ka _ ?_ | refine Ks _ (by first | exact Nat.le_refl _ | omega | (simp; done) | (simp; omega)) ?_ | refine Fd ?_ | refine Fn ?_ | refine Fb (by assumption) (by first | exact Nat.le_refl _ | omega | (simp; done) | (simp; omega)) ?_ | refine Fa _ (by first | exact Nat.le_refl _ | omega | (simp; done) | (simp; omega)) ?_ | refine Fs _ ?_)))), (by (repeat' refine And.intro ?_ ?_) <;> (repeat (first | with_reducible assumption | (simp; done) | (with_reducible first | refine Kd ?_ | refine Kn ?_ | refine Kb (by assumption) ?_) | ((with_reducible first | refine Kw ?_ ?_ | refine Fw ?_) <;> first | with_reducible rfl | (simp; done)) | (with_reducible first | refine Ka _ ?_ | refine Ks _ (by first | exact Nat.le_refl _ | omega | (simp; done) | (simp; omega)) ?_ | refine Fd ?_ | refine Fn ?_ | refine Fb (by assumption) (by first | exact Nat.le_refl _ | omega | (simp; done) | (simp; omega)) ?_ | refine Fa _ (by first | exact Nat.le_refl _ | omega | (simp; done) | (simp; omega)) ?_ | refine Fs _ ?_)))), (by (repeat' refine And.intro ?_ ?_) <;> (repeat (first | with_reducible assumption | (simp; done) | (with_reducible first | refine Kd ?_ | refine Kn ?_ | refine Kb (by assumption) ?_) | ((with_reducible first | refine Kw ?_ ?_ | refine Fw ?_) <;> first | with_reducible rfl | (simp; done)) | (with_reducible first | refine Ka _ ?_ | refine Ks _ (by first | exact Nat.le_refl _ | omega | (simp; done) | (simp; omega)) ?_ | refine Fd ?_ | refine Fn ?_ | refine Fb (by assumption) (by first | exact Nat.le_refl _ | omega | (simp; done) | (simp; omega)) ?_ | refine Fa _ (by first | exact Nat.le_refl _ | omega | (simp; done) | (simp; omega)) ?_ | refine Fs _ ?_)))), (by (repeat' refine And.intro ?_ ?_) <;> (repeat (first | with_reducible assumption | (simp; done) | (with_reducible first | refine Kd ?_ | refine Kn ?_ | refine Kb (by assumption) ?_) | ((with_reducible first | refine Kw ?_ ?_ | refine Fw ?_) <;> first | with_reducible rfl | (simp; done)) | (with_reducible first | refine Ka _ ?_ | refine Ks _ (by first | exact Nat.le_refl _ | omega | (simp; done) | (simp; omega)) ?_ | refine Fd ?_ | refine Fn ?_ | refine Fb (by assumption) (by first | exact Nat.le_refl _ | omega | (simp; done) | (simp; omega)) ?_ | refine Fa _ (by first | exact Nat.le_refl _ | omega | (simp; done) | (simp; omega)) ?_ | refine Fs _ ?_)))), (by (repeat' refine And.intro ?_ ?_) <;> (repeat (first | with_reducible assumption | (simp; done) | (with_reducible first | refine Kd ?_ | refine Kn ?_ | refine Kb (by assumption) ?_) | ((with_reducible first | refine Kw ?_ ?_ | refine Fw ?_) <;> first | with_reducible rfl | (simp; done)) | (with_reducible first | refine Ka _ ?_ | refine Ks _ (by first | exact Nat.le_refl _ | omega | (simp; done) | (simp; omega)) ?_ | refine Fd ?_ | refine Fn ?_ | refine Fb (by assumption) (by first | exact Nat.le_refl _ | omega | (simp; done) | (simp; omega)) ?_ | refine Fa _ (by first | exact Nat.le_refl _ | omega | (simp; done) | (simp; omega)) ?_ | refine Fs _ ?_)))), (by (repeat' refine And.intro ?_ ?_) <;> (repeat (first | with_reducible assumption | (simp; done) | (with_reducible first | refine Kd ?_ | refine Kn ?_ | refine Kb (by assumption) ?_) | ((with_reducible first | refine Kw ?_ ?_ | refine Fw ?_) <;> first | with_reducible rfl | (simp; done)) | (with_reducible first | refine Ka _ ?_ | refine Ks _ (by first | exact Nat.le_refl _ | omega | (simp; done) | (simp; omega)) ?_ | refine Fd ?_ | refine Fn ?_ | refine Fb (by assumption) (by first | exact Nat.le_refl _ | omega | (simp; done) | (simp; omega)) ?_ | refine Fa _ (by first | exact Nat.le_refl _ | omega | (simp; done) | (simp; omega)) ?_ | refine Fs _ ?_))))⟩, (by repeat (first | (with_reducible first | exact Below.refl _ _ | assumption | refine Below.drew ?_) | ((with_reducible first | refine Lc ?_ ?_ _ | refine Ls ?_ ?_ _ | refine Lv (by assumption) ?_ ?_); · first | exact Nat.le_refl _ | omega | (dsimp only; omega) | (simp only [World.size_alloc, World.size_drew, World.heap_drewN]; omega) | (simp; omega)))), by simp⟩ ?_
    rintro w12 ⟨hv12, hb12, hs12⟩
    have HA12 := Lib.hid (HA11.out.later hb12)
    have HR12 := Lib.hid (HR11.out.later (hb12.mono (by omega)))
    have HB12 := Lib.hid (HB11.out.trans (hb12.mono hs11))
    have HOA : Hid (OAt w12 lo w11.heap.size r.n r.d r.m r.D c.bA c.bc c.dA c.dc c.vA c.vc r.B r.V) := Lib.hid (by
      have hk := HC11.out.keep (w' := w12) (fun i h1 h2 => hb12.block i (by omega)) hb12.size
      have hvb : ∀ g, c.vA = some g → c.m ≤ g.block ∧ g.block < c.e := fun g hg => by
        rcases hk.v.2 with ⟨e0, _⟩ | ⟨q, cap, cur, e0, _⟩
        · injection e0 with e4 e5 e6
          rw [hg] at e4
          exact absurd e4 (by simp)
        · have := hk.vl q (by rw [e0]; rfl)
          injection e0 with e4 e5 e6
          rw [hg] at e4
          injection e4 with e4
          rw [e4]
          exact this
      obtain ⟨A, c', e0, ho, hvc⟩ := OwnWg.of hk.v
      injection e0 with e1 e2 e3
      rw [← e1] at ho
      have hsm := hk.sm
      have hee := HC11.out.e
      refine ⟨hv12, hk.b.low (by omega), hk.d.low (by omega), ho.low (by omega), fun a g ha hg => by have h1 := hk.bl a ha; have h2 := hvb g hg; omega, fun a g ha hg => by have h1 := hk.dl a ha; have h2 := hvb g hg; omega, ?_, ?_, hk.cap, by omega⟩
      · exact hk.bd
      · rintro a (h | h | h)
        · have := hk.bl a h
          omega
        · have := hk.dl a h
          omega
        · have := hvb a h
          omega)
    obtain ⟨ox, hox⟩ : ∃ x, x = w11.heap.size := ⟨_, rfl⟩
    rw [← hox] at HOA
    rw [← hox]
    clear hv12 hb12 hs12 hox HC11 HA11 HR11 HB11
    obtain ⟨c0, c1, c2⟩ := HA12.out
    go_upto_block 0 with fail
    refine turned_loop1 r HO rb ox lo hlo11.2.2.2.1 bA1 dA1 vA1 bc1 dc1 vc1 r.D c.bA c.dA c.vA c.bc c.dc c.vc r.V w12 HA12 HR12 HOA _ ?_
    intro x10 x62 x63 x64 x65 x66 x67 x68 x69 x70 x71 x72 x73 x74 x75 x76 x77 w13 H13
    have HA13 := Lib.hid (HA12.out.same (H13.out.1.block _ hlo11.2.2.2.1))
    have HR13 := Lib.hid (HR12.out.later H13.out.1)
    have HOA13 := Lib.hid H13.out.2
    have HB13 := Lib.hid (HB12.out.trans (H13.out.1.mono hlo11.2.2.2.2))
    have hvc1 : r.m ≤ vc1 := HR12.out.vc
    clear H13 HA12 HR12 HOA HB12 c0 c1 c2
    obtain ⟨c0, c1, c2⟩ := HA13.out
    go_upto_block 2 with fail
    refine turned_loop2 r HO rb ox lo bA1 dA1 vA1 bc1 dc1 vc1 hvc1 r.D c.bA c.dA c.vA c.bc c.dc c.vc r.mir.B w13 HR13 HOA13 _ ?_
    intro x11 x12 x81 x82 x83 x84 x85 x86 x87 x88 x89 x90 x91 x92 x93 x94 x95 x96 x97 x98 x99 x100 x101 x102 x103 x104 x105 x106 w14 H14
    have HA14 := Lib.hid (HA13.out.same (H14.out.1.block _ hlo11.2.2.2.1))
    have HR14 := Lib.hid (((HR13.out.later H14.out.1)).up (HR13.out.later H14.out.1).lt (Nat.le_refl _))
    have HI14 : Hid (RowIx w14 ox r.mir) := Lib.hid (H14.out.2.ix HO.out)
    have HB14 := Lib.hid (HB13.out.trans (H14.out.1.mono hlo11.2.2.2.2))
    have hs14 := HB14.out.size
    clear H14 HA13 HR13 HOA13 HB13 c0 c1 c2
    have HRX : Hid (RowIx w14 rb r) := Lib.hid ⟨bA1, dA1, vA1, bc1, dc1, vc1, HA14.out, HR14.out⟩
    obtain ⟨c0, c1, c2⟩ := HA14.out
    go_wp2_with fail
    refine (pairs_any bA1 r.n bc1 _ _ hn6 ⟨_, _, _, rfl⟩ ⟨_, _, _, rfl⟩ _).mono ?_
    rintro e w15 ⟨pA, pc, m, P, rfl, hm36, hpp, hpr, hb15⟩
    have HB15 := Lib.hid (HB14.out.trans (hb15.mono hs14))
    have HPP := Lib.hid hpp
    have HPR := Lib.hid hpr
    have HRX15 := Lib.hid (HRX.out.later hb15)
    have HI15 := Lib.hid (HI14.out.later hb15)
    have hs15 := HB15.out.size
    clear hpp hpr hb15 c0 c1 c2 HA14 HR14 HI14 HB14 HRX
    go_upto_block 4 with fail
    refine turned_loop3 r HO rb ox pA m P hm36 HPP pc w15 HPR HRX15 HI15 _ ?_
    intro x4 x14 x15 x16 x17 x18 x19 x20 x21 x22 x23 x24 x25 x26 x27 x110 x111 x112 x113 x114 x115 x116 x117 x118 x119 x120 x121 x122 x123 x124 x125 x126 x127 x128 x129 x130 x131 x132 x133 x134 x135 x136 x137 x138 x139 x140 x141 x142 x143 x144 x145 x146 x147 x148 x149 x150 x151 x152 x153 x154 x155 x156 x157 x158 x159 x160 x161 x162 x163 x164 x165 x166 x167 x168 x169 x170 x171 x172 x173 x174 x175 x176 x177 x178 x179 x180 x181 x182 x183 x184 x185 x186 x187 x188 x189 x190 x191 x192 x193 x194 x195 x196 x197 x198 x199 x200 x201 x202 x203 x204 x205 x206 w16 HW
    have HB16 := Lib.hid (HB15.out.trans (HW.out.mono hs15))
    have HR16 := Lib.hid (HRX15.out.later HW.out)
    have HI16 := Lib.hid (HI15.out.later HW.out)
    have hs16 := HB16.out.size
    have HM := Lib.hid (Rw.mir_ok HO.out)
    have hmc := Rw.mir_clash HO.out
    have hmf := Rw.mir_few HO.out
    have hmn := Rw.mir_next HO.out
    have HMC := Lib.hid hmc
    have HMF := Lib.hid hmf
    have HMN := Lib.hid hmn
    have hlc : r.clashL.length ≤ r.m := Rw.clN_len r r.m
    have hlf : r.fewL.length ≤ r.m := Rw.fwN_len r _
    have hnc := natN_bd (er := r.clashErr) hlc HO.out
    have hnf := natN_bd (er := r.check) hlf HO.out
    clear HW HB15 HRX15 HI15 HPP HPR hmc hmf hmn
    obtain ⟨bA2, dA2, vA2, bc2, dc2, vc2, ⟨c0, c1, c2⟩, hr⟩ := HR16.out
    go_wp2_with fail
    refine (Clash_any r bA2 dA2 vA2 bc2 dc2 vc2 _ hr).mono ?_
    intro e w17 hpost
    obtain ⟨kA, kc, rfl, hk17, hb17⟩ := nat_post hpost
    have HK17 := Lib.hid hk17
    have HB17 := Lib.hid (HB16.out.trans (hb17.mono hs16))
    have HR17 := Lib.hid (HR16.out.later hb17)
    have HI17 := Lib.hid (HI16.out.later hb17)
    have hs17 := HB17.out.size
    clear hpost hk17 hb17 hr c0 c1 c2 HB16 HR16 HI16
    obtain ⟨bA2, dA2, vA2, bc2, dc2, vc2, ⟨c0, c1, c2⟩, hr⟩ := HI17.out
    go_wp2_with fail
    refine (Clash_any r.mir bA2 dA2 vA2 bc2 dc2 vc2 _ hr).mono ?_
    intro e w18 hpost
    rw [HMC.out.1, HMC.out.2] at hpost
    obtain ⟨lA, lc, rfl, hk18, hb18⟩ := nat_post hpost
    have HL18 := Lib.hid hk18
    have HK18 := Lib.hid (HK17.out.later hb18)
    have HB18 := Lib.hid (HB17.out.trans (hb18.mono hs17))
    have HR18 := Lib.hid (HR17.out.later hb18)
    have HI18 := Lib.hid (HI17.out.later hb18)
    have hs18 := HB18.out.size
    clear hpost hk18 hb18 hr c0 c1 c2 HB17 HR17 HI17 HK17
    obtain ⟨bA2, dA2, vA2, bc2, dc2, vc2, ⟨c0, c1, c2⟩, hr⟩ := HR18.out
    go_wp2_with fail
    refine (Fewest_any r bA2 dA2 vA2 bc2 dc2 vc2 _ hr).mono ?_
    intro e w19 hpost
    obtain ⟨fA, fc, rfl, hk19, hb19⟩ := nat_post hpost
    have HF19 := Lib.hid hk19
    have HL19 := Lib.hid (HL18.out.later hb19)
    have HK19 := Lib.hid (HK18.out.later hb19)
    have HB19 := Lib.hid (HB18.out.trans (hb19.mono hs18))
    have HR19 := Lib.hid (HR18.out.later hb19)
    have HI19 := Lib.hid (HI18.out.later hb19)
    have hs19 := HB19.out.size
    have hck := Rw.check_ok.2 HO.out
    have hckm := Rw.check_ok.2 HM.out
    have HCK := Lib.hid (And.intro hck hckm)
    clear hpost hk19 hb19 hr c0 c1 c2 HB18 HR18 HI18 HK18 HL18
    obtain ⟨bA2, dA2, vA2, bc2, dc2, vc2, ⟨c0, c1, c2⟩, hr⟩ := HI19.out
    clear hck hckm
    go_wp2_with fail
    refine (Fewest_any r.mir bA2 dA2 vA2 bc2 dc2 vc2 _ hr).mono ?_
    intro e w20 hpost
    rw [HMF.out, HCK.out.2, ← HCK.out.1] at hpost
    obtain ⟨gA, gc, rfl, hk20, hb20⟩ := nat_post hpost
    have HG20 := Lib.hid hk20
    have HF20 := Lib.hid (HF19.out.later hb20)
    have HL20 := Lib.hid (HL19.out.later hb20)
    have HK20 := Lib.hid (HK19.out.later hb20)
    have HB20 := Lib.hid (HB19.out.trans (hb20.mono hs19))
    have HR20 := Lib.hid (HR19.out.later hb20)
    have HI20 := Lib.hid (HI19.out.later hb20)
    have hs20 := HB20.out.size
    clear hpost hk20 hb20 hr c0 c1 c2 HB19 HR19 HI19 HK19 HL19 HF19
    obtain ⟨bA2, dA2, vA2, bc2, dc2, vc2, ⟨c0, c1, c2⟩, hr⟩ := HR20.out
    go_wp2_with fail
    refine (Next_any r bA2 dA2 vA2 bc2 dc2 vc2 _ hr).mono ?_
    rintro e w21 ⟨rfl, hb21⟩
    have HG21 := Lib.hid (HG20.out.later hb21)
    have HF21 := Lib.hid (HF20.out.later hb21)
    have HL21 := Lib.hid (HL20.out.later hb21)
    have HK21 := Lib.hid (HK20.out.later hb21)
    have HB21 := Lib.hid (HB20.out.trans (hb21.mono hs20))
    have HI21 := Lib.hid (HI20.out.later hb21)
    have hs21 := HB21.out.size
    clear hb21 hr c0 c1 c2 HB20 HR20 HI20 HK20 HL20 HF20 HG20
    obtain ⟨bA2, dA2, vA2, bc2, dc2, vc2, ⟨c0, c1, c2⟩, hr⟩ := HI21.out
    go_wp2_with fail
    refine (Next_any r.mir bA2 dA2 vA2 bc2 dc2 vc2 _ hr).mono ?_
    rintro e w22 ⟨rfl, hb22⟩
    rw [HMN.out.1, HMN.out.2]
    have HG22 := Lib.hid (HG21.out.later hb22)
    have HF22 := Lib.hid (HF21.out.later hb22)
    have HL22 := Lib.hid (HL21.out.later hb22)
    have HK22 := Lib.hid (HK21.out.later hb22)
    have HB22 := Lib.hid (HB21.out.trans (hb22.mono hs21))
    have hs22 := HB22.out.size
    clear hb22 hr c0 c1 c2 HB21 HI21 HK21 HL21 HF21 HG21
    obtain ⟨n1, hn1'⟩ : ∃ x, x = natN r.clashL r.clashErr := ⟨_, rfl⟩
    obtain ⟨n2, hn2'⟩ : ∃ x, x = natN r.fewL r.check := ⟨_, rfl⟩
    rw [← hn1'] at HK22 HL22 hnc
    rw [← hn2'] at HF22 HG22 hnf
    have hck := HCK.out.1
    rw [← hn1', ← hn2']
    obtain ⟨ce, hce⟩ : ∃ x, x = r.clashErr := ⟨_, rfl⟩
    obtain ⟨fe, hfe⟩ : ∃ x, x = r.fitErr := ⟨_, rfl⟩
    obtain ⟨nx, hnx⟩ : ∃ x, x = r.nextR.2.2 := ⟨_, rfl⟩
    rw [← hce, ← hfe, ← hnx, hck]
    have b1 : (ce == ce) = true := by simp
    have b2 : (fe == fe) = true := by simp
    have b3 : (nx == nx) = true := by simp
    clear hn1' hn2' hce hfe hnx hck
    go_wp2_with fail
    refine (alike_same kA lA n1 kc lc (numOf r.clashL) _ HK22.out HL22.out hnc).mono ?_
    rintro e w23 ⟨rfl, hb23⟩
    have HG23 := Lib.hid (HG22.out.later hb23)
    have HF23 := Lib.hid (HF22.out.later hb23)
    have HB23 := Lib.hid (HB22.out.trans (hb23.mono hs22))
    have hs23 := HB23.out.size
    clear hb23 HB22 HK22 HL22 HF22 HG22
    go_wp2_with fail
    refine (alike_same fA gA n2 fc gc (numOf r.fewL) _ HF23.out HG23.out hnf).mono ?_
    rintro e w24 ⟨rfl, hb24⟩
    have HB24 := Lib.hid (HB23.out.trans (hb24.mono hs23))
    have hs24 := HB24.out.size
    clear hb24 HB23 HF23 HG23
    go_wp2_with fail
    refine (awake_any _).mono ?_
    rintro e w25 ⟨rfl, hb⟩
    have Hc := Lib.hid (HB24.out.trans (hb.mono hs24))
    clear hb
    go_wp2_with fail
    go_ret
    exact ⟨rfl, Hc.out⟩
end Go.Proofs.Ytnnikeolgknfoaa

set_option linter.unusedSimpArgs false
set_option linter.unusedVariables false
namespace Go.Proofs.Ytnnikeolgknfoaa
open Go.ChangeShapes Go.WideShapes Go.ChangeAt Go.RowKit

set_option maxRecDepth 100000 in
set_option maxHeartbeats 1000000 in
theorem turned_lifted (os : Os) (started : os.Started) (H : Type) (enc : TypeId × Value → H) :
    ReturnsInHanded {} Try.checked os 7 .any (Rows.binTurnedSpec.pre6 enc Try.prog Try.f7 Rows.binTurnedRow.domain false) (Rows.binTurnedSpec.post enc Try.prog Try.f7 false true false false) := by
  refine returnsInHanded_of_change (C := Try.checked) own_knob started (by kernel_rfl) Try.func7
    (ChangeSpec.witness6 (enc := enc) (C := Try.checked) false ⟨#[], #[.slice none 0 0, .slice none 0 0], []⟩ 8 (by kernel_rfl) (by kernel_rfl) (by kernel_rfl) (by kernel_rfl)) ?_
  intro W base args ds gs before hval0 hW hcnd _
  have hval : ∀ (j : Nat) t v, Try.f7.params[j]? = some t → args[j]? = some v → Value.okWide Try.prog W .any base t v := hval0
  have hW' := hW
  obtain ⟨p, q, hA0, hV, rfl, hfz, hnd⟩ := hW
  have hA : DataW.TrodAll enc Try.prog W 0 (fun _ => true) true Try.f7.params.toList args.toList ds p := hA0
  rw [Try.params7] at hA hval
  obtain ⟨v0, v1, d0, d1, p0, p1, rfl, rfl, rfl, h0, h1⟩ := trodAll_two hA
  obtain ⟨rfl, rfl⟩ := trodVars_none hV
  obtain ⟨a0, n0, c0, rfl⟩ := okWide_slice Try.underlying22 (hval 0 22 v0 rfl rfl)
  have h0k := h0
  obtain ⟨f0, g0⟩ := h0
  obtain ⟨A, n, c, hv, hby0, hmx0⟩ := open_bytes (v := .slice a0 n0 c0) g0
  injection hv with hv1 hv2 hv3
  subst hv1 hv2 hv3
  obtain ⟨a1, n1, c1, rfl⟩ := okWide_slice Try.underlying22 (hval 1 22 v1 rfl rfl)
  have h1k := h1
  obtain ⟨f1, g1⟩ := h1
  obtain ⟨A, n, c, hv, hby1, hmx1⟩ := open_bytes (v := .slice a1 n1 c1) g1
  injection hv with hv1 hv2 hv3
  subst hv1 hv2 hv3
  clear hA0 hval0
  simp only [List.append_nil] at hW'
  have hlt0 : ∀ x ∈ p0, x.block < W.heap.size := fun x hx => hW'.lt x (by simp [hx])
  have hlt1 : ∀ x ∈ p1, x.block < W.heap.size := fun x hx => hW'.lt x (by simp [hx])
  refine (turned_law a0 n0 c0 a1 n1 c1 W hby0 (by unfold maxLen at hmx0; omega) hby1 (by unfold maxLen at hmx1; omega)).mono fun e W' ⟨he, bel⟩ => ?_
  subst he
  exact ⟨_, rfl, _, _, _, [], _, [], hW', trodAll_mk1 (shut_bool Try.underlying4 true),
    trodAll_mk2 (Below.trod laid_out (by kernel_rfl) (of_decide_eq_true (by kernel_rfl)) h0k bel hlt0) (Below.trod laid_out (by kernel_rfl) (of_decide_eq_true (by kernel_rfl)) h1k bel hlt1), rfl, bel.frame _, fun h => by cases h⟩

theorem bin_turned_holds : Rows.BinTurnedSaid :=
  OpenClaim.holds_of_wide 7 Try.f7 rfl rfl rfl rfl rfl rfl rfl ⟨rfl, rfl, rfl, rfl, rfl⟩ rfl rfl rfl rfl rfl (by kernel_rfl) Try.func7 (by kernel_rfl)
    (of_decide_eq_true (by kernel_rfl)) (by unfold Func.isWrapper; first | (rw [if_pos (by decide +kernel)]; kernel_rfl) | (rw [if_neg (by decide +kernel)]; exact ⟨rfl, rfl⟩))
    (fun os started H enc _ => turned_lifted os started H enc)
#print axioms bin_turned_holds
end Go.Proofs.Ytnnikeolgknfoaa
