/- bin.Why. -/
import Derived.Test.YtnnikeolgknfoaaGreatBs
import Derived.Test.YtnnikeolgknfoaaGreatBl
set_option linter.unusedSimpArgs false
set_option linter.unusedVariables false
namespace Go.Proofs.YtnnikeolgknfoaaGreat
open Go.RowKit Go.Shelf

/-- a walk that shows, or the error -/
def WhyPost (r : Rw) (f t : Int) (most : Bool) (W : World) (e : Ending) (W' : World) : Prop :=
  (r.askErr f t = 0 ∧ ∃ (l : List Fc) (A : Option Addr) (c : Nat), e = .returned (.tuple #[.slice A l.length c, .int .i64 0]) ∧ W'.ownsRow W.heap.size 76 3 (.slice A l.length c) l.length (fcL l) ∧ Chain r (waysR f t most).1.toNat (waysR f t most).2.toNat l ∧ wsum r l = r.search.1.L (waysR f t most).1.toNat (waysR f t most).2.toNat ∧ l.length ≤ r.n ∧ Below W.heap.size W W') ∨
  (r.askErr f t ≠ 0 ∧ e = .returned (.tuple #[.slice none 0 0, .int .i64 (r.askErr f t)]) ∧ Below W.heap.size W W')

set_option maxRecDepth 100000 in
set_option maxHeartbeats 4000000 in
theorem Why_any (r : Rw) (f t : Int) (most : Bool) (bA dA vA : Option Addr) (bc dc vc : Nat) (W : World) (hrow : RwRow W W.heap.size r bA bc dA dc vA vc) :
    Calls Tryz.prog 42 #[rwV bA r.n bc dA r.d dc vA r.m vc, .int .i64 f, .int .i64 t, .bool most] W (WhyPost r f t most W) := by
  have H0 := Lib.hid hrow
  clear hrow
  go_enter Tryz.func42, Tryz.ntmps42
  go_wp2_with fail
  refine (asked_any r f t bA dA vA bc dc vc _ ((H0.out.later (by repeat (first | (with_reducible first | exact Below.refl _ _ | assumption | refine Below.drew ?_) | ((with_reducible first | refine Lc ?_ ?_ _ | refine Ls ?_ ?_ _ | refine Lv (by assumption) ?_ ?_); · first | exact Nat.le_refl _ | omega | (dsimp only; omega) | (simp only [World.size_alloc, World.size_drew, World.heap_drewN]; omega) | (simp; omega))))).up (by first | exact Nat.le_refl _ | omega | (simp; done) | (simp; omega) | (simp at *; omega)) (by first | exact Nat.le_refl _ | omega | (simp; done) | (simp; omega) | (simp at *; omega)))).mono ?_
  rintro e w1 (⟨h0, db, A, c, rfl, hdb, hd, ho, hb1⟩ | ⟨h0, rfl, hb1⟩)
  · have HB1 := Lib.hid (show Below W.heap.size W w1 from (by repeat (first | (with_reducible first | exact Below.refl _ _ | refine Below.drew ?_ | refine below_drewN ?_ _) | ((with_reducible first | refine Lc ?_ ?_ _ | refine Ls ?_ ?_ _ | refine Lv (by assumption) ?_ ?_); · first | exact Nat.le_refl _ | omega | (simp; done) | (simp; omega) | (simp at *; omega)))))
    obtain ⟨hok, hf0, hft, htn, hrd⟩ := Rw.ask_ok h0
    obtain ⟨f', rfl⟩ := Int.eq_ofNat_of_zero_le hf0
    obtain ⟨t', rfl⟩ := Int.eq_ofNat_of_zero_le (by omega : 0 ≤ t)
    have hfin := Rw.fin_of hok hrd
    have hn6 := hok.n6
    have hs1 := HB1.out.size
    have HD := Lib.hid hd
    have HE := Lib.hid h0
    have hww : waysR (f' : Int) (t' : Int) most = (((if most then f' else t' + 1 : Nat) : Int), ((if most then t' + 1 else f' : Nat) : Int)) := by
      unfold waysR
      cases most <;> simp
    obtain ⟨x, hx⟩ : ∃ x : Nat, x = (if most then f' else t' + 1) := ⟨_, rfl⟩
    obtain ⟨y, hy⟩ : ∃ y : Nat, y = (if most then t' + 1 else f') := ⟨_, rfl⟩
    rw [← hx, ← hy] at hww
    have hxn : x ≤ r.n ∧ y ≤ r.n := by
      rw [hx, hy]
      cases most <;> simp <;> omega
    obtain ⟨hc, hsum, hlen⟩ := hfin.w x y hxn.1 hxn.2
    have hwk := Wk.of hok 7 x hxn.1 hc
    obtain ⟨l, hl⟩ : ∃ l, l = wlk r r.search.1.F y 7 x := ⟨_, rfl⟩
    rw [← hl] at hc hsum hlen hwk
    have HW := Lib.hid hwk
    have HC := Lib.hid (And.intro hc (And.intro hsum hlen))
    have HWW := Lib.hid hww
    have HOK := Lib.hid hok
    have hl1000 : l.length ≤ 1000 := by omega
    clear h0 hd ho hb1 hok hfin hrd hf0 hc hsum hlen hwk hl hx hy hww
    go_wp2_with fail
    refine (ways_any (f' : Int) (t' : Int) most (by omega) _).mono ?_
    rintro e w2 ⟨rfl, hb2⟩
    rw [HWW.out]
    have HB2 := Lib.hid (HB1.out.trans ((show Below w1.heap.size w1 w2 from (by repeat (first | (with_reducible first | exact Below.refl _ _ | assumption | refine Below.drew ?_) | ((with_reducible first | refine Lc ?_ ?_ _ | refine Ls ?_ ?_ _ | refine Lv (by assumption) ?_ ?_); · first | exact Nat.le_refl _ | omega | (dsimp only; omega) | (simp only [World.size_alloc, World.size_drew, World.heap_drewN]; omega) | (simp; omega))))).mono hs1))
    have hb12 : Below w1.heap.size w1 w2 := (by repeat (first | (with_reducible first | exact Below.refl _ _ | assumption | refine Below.drew ?_) | ((with_reducible first | refine Lc ?_ ?_ _ | refine Ls ?_ ?_ _ | refine Lv (by assumption) ?_ ?_); · first | exact Nat.le_refl _ | omega | (dsimp only; omega) | (simp only [World.size_alloc, World.size_drew, World.heap_drewN]; omega) | (simp; omega))))
    have HD2 := Lib.hid (HD.out.later hb12)
    have hs2 := HB2.out.size
    clear hb2 hb12 HD HB1
    go_wp2_with fail
    refine (walk_any r HOK.out r.search.1.F _ db bA dA vA bc dc vc y x hxn.2 hxn.1 l hl1000 HW.out _ (HD2.out.later (by repeat (first | (with_reducible first | exact Below.refl _ _ | assumption | refine Below.drew ?_) | ((with_reducible first | refine Lc ?_ ?_ _ | refine Ls ?_ ?_ _ | refine Lv (by assumption) ?_ ?_); · first | exact Nat.le_refl _ | omega | (dsimp only; omega) | (simp only [World.size_alloc, World.size_drew, World.heap_drewN]; omega) | (simp; omega))))).f (HD2.out.later (by repeat (first | (with_reducible first | exact Below.refl _ _ | assumption | refine Below.drew ?_) | ((with_reducible first | refine Lc ?_ ?_ _ | refine Ls ?_ ?_ _ | refine Lv (by assumption) ?_ ?_); · first | exact Nat.le_refl _ | omega | (dsimp only; omega) | (simp only [World.size_alloc, World.size_drew, World.heap_drewN]; omega) | (simp; omega))))).a).mono ?_
    rintro e w3 ⟨A3, c3, rfl, ho3, hb3⟩
    have HB3 := Lib.hid (HB2.out.trans ((show Below w2.heap.size w2 w3 from (by repeat (first | (with_reducible first | exact Below.refl _ _ | assumption | refine Below.drew ?_) | ((with_reducible first | refine Lc ?_ ?_ _ | refine Ls ?_ ?_ _ | refine Lv (by assumption) ?_ ?_); · first | exact Nat.le_refl _ | omega | (dsimp only; omega) | (simp only [World.size_alloc, World.size_drew, World.heap_drewN]; omega) | (simp; omega))))).mono hs2))
    have HO3 := Lib.hid ho3
    clear hb3 ho3
    go_wp2_with fail
    go_ret2
    refine .inl ⟨HE.out, l, A3, c3, rfl, owns_low (by first | exact Nat.le_refl _ | omega | (simp; done) | (simp; omega) | (simp at *; omega)) HO3.out, ?_, ?_, HC.out.2.2, HB3.out⟩
    · rw [HWW.out]
      exact HC.out.1
    · rw [HWW.out]
      exact HC.out.2.1
  · have HB1 := Lib.hid (show Below W.heap.size W w1 from (by repeat (first | (with_reducible first | exact Below.refl _ _ | refine Below.drew ?_ | refine below_drewN ?_ _) | ((with_reducible first | refine Lc ?_ ?_ _ | refine Ls ?_ ?_ _ | refine Lv (by assumption) ?_ ?_); · first | exact Nat.le_refl _ | omega | (simp; done) | (simp; omega) | (simp at *; omega)))))
    have hne : (r.askErr f t != 0) = true := by simpa using h0
    have HE := Lib.hid h0
    clear hb1 h0
    go_wp2_with fail
    go_ret2
    exact .inr ⟨HE.out, rfl, HB1.out⟩
end Go.Proofs.YtnnikeolgknfoaaGreat
