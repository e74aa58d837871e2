/- bin.opened. -/
import Derived.Test.YtnnikeolgknfoaaGreatBk
set_option linter.unusedSimpArgs false
set_option linter.unusedVariables false
namespace Go.Proofs.YtnnikeolgknfoaaGreat
open Go.RowKit Go.Shelf
attribute [local go_sem] Oper.semAt_some

def OpenedYes (r : Rw) (bA : Option Addr) (bc : Nat) (dA : Option Addr) (dc : Nat) (vA : Option Addr) (vc : Nat) (W : World) (e : Ending) (W' : World) : Prop :=
  ∃ (db : Nat) (A : Option Addr) (c : Nat), e = Ending.returned (.tuple #[.pointer (some ⟨db, 0, none⟩), .int .i64 0]) ∧ W.heap.size ≤ db ∧ DkAt W' W.heap.size db r r.search.1 bA bc dA dc vA vc (.slice A r.round.length c) ∧ W'.ownsRow W.heap.size 76 3 (.slice A r.round.length c) r.round.length (fcL r.round) ∧ Below W.heap.size W W'

theorem lt_obj {w : World} {i : Nat} {o : Obj} (h : w.heap[i]? = some o) : i < w.heap.size := (Array.getElem?_eq_some_iff.1 h).1
theorem opened_close (r : Rw) (W w wo : World) (db D : Nat) (bA dA vA : Option Addr) (bc dc vc : Nat) (S : Sk) (l : List Fc) (hs : r.search.1 = S) (hl : r.round = l) (A : Option Addr) (c : Nat) (hd : DkAt w W.heap.size db r S bA bc dA dc vA vc (.slice A l.length c)) (ho : w.ownsRow wo.heap.size 76 3 (.slice A l.length c) l.length (fcL l)) (hb : Below W.heap.size W w) (he : w.heap[D]? = some (.deferred (some []))) (h1 : db + 1 < D) (h2 : W.heap.size ≤ db) (h3 : D < wo.heap.size) (h4 : W.heap.size ≤ wo.heap.size) : OpenedYes r bA bc dA dc vA vc W (Ending.returned (.tuple #[.pointer (some ⟨db, 0, none⟩), .int .i64 0])) (w.putObj D (.deferred none)) := by
  have hlt := lt_obj he
  have hp : Below D w (w.putObj D (.deferred none)) := below_put _ _ _ _ (Nat.le_refl _) (by omega)
  subst hs hl
  exact ⟨db, A, c, rfl, h2, hd.over (by omega) (by omega) hp, owns_low h4 (owns_sm ho (fun g hg _ => World.putObj_heap_other (by omega))), hb.trans (hp.mono (by omega))⟩

set_option maxRecDepth 100000 in
set_option maxHeartbeats 0 in
theorem opened_yes (r : Rw) (hr : r.ok) (bA dA vA : Option Addr) (bc dc vc : Nat) (W : World) (hrow : RwRow W W.heap.size r bA bc dA dc vA vc) :
    Calls Tryz.prog 80 #[rwV bA r.n bc dA r.d dc vA r.m vc] W (OpenedYes r bA bc dA dc vA vc W) := by
  have HR := Lib.hid hr
  have H0 := Lib.hid hrow
  have hn6 := hr.n6
  have hn1 := hr.n1
  have hc := Rw.check_ok.2 hr
  clear hr hrow
  refine calls_of_wp_marks Tryz.func80 rfl ?_; simp only [Tryz.ntmps80, List.size_toArray, List.length_cons, List.length_nil, Nat.reduceAdd, Nat.reduceSub, Array.replicate_succ, Array.replicate_zero, List.push_toArray, List.append_toArray, List.nil_append, List.cons_append]
  go_wp2_with fail
  go_step3
  go_wp2_with fail
  refine (check_any r bA dA vA bc dc vc _ ((H0.out.later (by repeat (first | (with_reducible first | exact Below.refl _ _ | assumption | refine Below.drew ?_) | ((with_reducible first | refine Lc ?_ ?_ _ | refine Ls ?_ ?_ _ | refine Lv (by assumption) ?_ ?_); · first | exact Nat.le_refl _ | omega | (dsimp only; omega) | (simp only [World.size_alloc, World.size_drew, World.heap_drewN]; omega) | (simp; omega))))).up (by simp) (by simp))).mono ?_
  rintro e w1 ⟨rfl, hb1⟩
  rw [hc]
  have c0 : w1.cell? ⟨W.heap.size, 0, none⟩ = some (.slice bA r.n bc) := Kb hb1 (by (repeat' refine And.intro ?_ ?_) <;> (repeat (first | with_reducible assumption | (simp; done) | (with_reducible first | refine Kd ?_ | refine Kn ?_ | refine Kb (by assumption) ?_) | ((with_reducible first | refine Kw ?_ ?_ | refine Fw ?_) <;> first | with_reducible rfl | (simp; done)) | (with_reducible first | refine Ka _ ?_ | refine Ks _ (by first | exact Nat.le_refl _ | omega | (simp; done) | (simp; omega)) ?_ | refine Fd ?_ | refine Fn ?_ | refine Fb (by assumption) (by first | exact Nat.le_refl _ | omega | (simp; done) | (simp; omega)) ?_ | refine Fa _ (by first | exact Nat.le_refl _ | omega | (simp; done) | (simp; omega)) ?_ | refine Fs _ ?_))))
  have c1 : w1.cell? ⟨W.heap.size, 1, none⟩ = some (.slice dA r.d dc) := Kb hb1 (by (repeat' refine And.intro ?_ ?_) <;> (repeat (first | with_reducible assumption | (simp; done) | (with_reducible first | refine Kd ?_ | refine Kn ?_ | refine Kb (by assumption) ?_) | ((with_reducible first | refine Kw ?_ ?_ | refine Fw ?_) <;> first | with_reducible rfl | (simp; done)) | (with_reducible first | refine Ka _ ?_ | refine Ks _ (by first | exact Nat.le_refl _ | omega | (simp; done) | (simp; omega)) ?_ | refine Fd ?_ | refine Fn ?_ | refine Fb (by assumption) (by first | exact Nat.le_refl _ | omega | (simp; done) | (simp; omega)) ?_ | refine Fa _ (by first | exact Nat.le_refl _ | omega | (simp; done) | (simp; omega)) ?_ | refine Fs _ ?_))))
  have c2 : w1.cell? ⟨W.heap.size, 2, none⟩ = some (.slice vA r.m vc) := Kb hb1 (by (repeat' refine And.intro ?_ ?_) <;> (repeat (first | with_reducible assumption | (simp; done) | (with_reducible first | refine Kd ?_ | refine Kn ?_ | refine Kb (by assumption) ?_) | ((with_reducible first | refine Kw ?_ ?_ | refine Fw ?_) <;> first | with_reducible rfl | (simp; done)) | (with_reducible first | refine Ka _ ?_ | refine Ks _ (by first | exact Nat.le_refl _ | omega | (simp; done) | (simp; omega)) ?_ | refine Fd ?_ | refine Fn ?_ | refine Fb (by assumption) (by first | exact Nat.le_refl _ | omega | (simp; done) | (simp; omega)) ?_ | refine Fa _ (by first | exact Nat.le_refl _ | omega | (simp; done) | (simp; omega)) ?_ | refine Fs _ ?_))))
  have HB1 := Lib.hid (show Below W.heap.size W w1 from (by repeat (first | (with_reducible first | exact Below.refl _ _ | refine Below.drew ?_ | refine below_drewN ?_ _) | ((with_reducible first | refine Lc ?_ ?_ _ | refine Ls ?_ ?_ _ | refine Lv (by assumption) ?_ ?_); · first | exact Nat.le_refl _ | omega | (simp; done) | (simp; omega) | (simp at *; omega)))))
  have hz1 : W.heap.size + 1 ≤ w1.heap.size := by have := hb1.size; simpa using this
  clear hb1 hc
  go_upto_region 5 with fail
  refine wp_world (fun W2 => OpAt W W2 w1.heap.size (w1.heap.size + 1) r ⟨fun _ _ => 0, fun _ _ => fc0⟩ bA bc dA dc vA vc (.slice none 0 0) ∧ W2.cell? ⟨W.heap.size, 0, none⟩ = some (.slice bA r.n bc)) ⟨?_, (by (repeat' refine And.intro ?_ ?_) <;> (repeat (first | with_reducible assumption | (simp; done) | (with_reducible first | refine Kd ?_ | refine Kn ?_ | refine Kb (by assumption) ?_) | ((with_reducible first | refine Kw ?_ ?_ | refine Fw ?_) <;> first | with_reducible rfl | (simp; done)) | (with_reducible first | refine Ka _ ?_ | refine Ks _ (by first | exact Nat.le_refl _ | omega | (simp; done) | (simp; omega)) ?_ | refine Fd ?_ | refine Fn ?_ | refine Fb (by assumption) (by first | exact Nat.le_refl _ | omega | (simp; done) | (simp; omega)) ?_ | refine Fa _ (by first | exact Nat.le_refl _ | omega | (simp; done) | (simp; omega)) ?_ | refine Fs _ ?_))))⟩ ?_
  · have hcell : ∀ i v, 3 ≤ i → (deskL (.slice none 0 0) (.slice none 0 0) (.slice none 0 0))[i]? = some v → ((w1.alloc (Obj.cells (((Tryz.zeroCells154.setIfInBounds 0 (Value.slice bA r.n bc)).setIfInBounds 1 (Value.slice dA r.d dc)).setIfInBounds 2 (Value.slice vA r.m vc)) 154)).alloc (Obj.cells #[Value.pointer (some ⟨w1.heap.size, 0, none⟩)] 134)).cell? ⟨w1.heap.size, i, none⟩ = some v := fun i v hi hv => by
      refine Ka _ (Kw rfl ?_)
      rw [Array.getElem?_setIfInBounds_ne (by omega), Array.getElem?_setIfInBounds_ne (by omega), Array.getElem?_setIfInBounds_ne (by omega), zeroDesk]
      simpa using hv
    have hc012 : ∀ i v, (((Tryz.zeroCells154.setIfInBounds 0 (Value.slice bA r.n bc)).setIfInBounds 1 (Value.slice dA r.d dc)).setIfInBounds 2 (Value.slice vA r.m vc))[i]? = some v → ((w1.alloc (Obj.cells (((Tryz.zeroCells154.setIfInBounds 0 (Value.slice bA r.n bc)).setIfInBounds 1 (Value.slice dA r.d dc)).setIfInBounds 2 (Value.slice vA r.m vc)) 154)).alloc (Obj.cells #[Value.pointer (some ⟨w1.heap.size, 0, none⟩)] 134)).cell? ⟨w1.heap.size, i, none⟩ = some v := fun i v hv => Ka _ (Kw rfl hv)
    have hb2 : Below W.heap.size W ((w1.alloc (Obj.cells (((Tryz.zeroCells154.setIfInBounds 0 (Value.slice bA r.n bc)).setIfInBounds 1 (Value.slice dA r.d dc)).setIfInBounds 2 (Value.slice vA r.m vc)) 154)).alloc (Obj.cells #[Value.pointer (some ⟨w1.heap.size, 0, none⟩)] 134)) := HB1.out.trans (((Below.refl _ _).alloc (by omega) _).alloc (by simp; omega) _)
    refine ⟨⟨⟨⟨hc012 0 _ ?_, hc012 1 _ ?_, hc012 2 _ ?_⟩, H0.out.later hb2⟩, fun x y hx hy => ?_, fun x y hx hy => ?_, hcell 199 _ (by omega) (deskL_r _ _ _), fun i => ?_⟩, (by (repeat' refine And.intro ?_ ?_) <;> (repeat (first | with_reducible assumption | (simp; done) | (with_reducible first | refine Kd ?_ | refine Kn ?_ | refine Kb (by assumption) ?_) | ((with_reducible first | refine Kw ?_ ?_ | refine Fw ?_) <;> first | with_reducible rfl | (simp; done)) | (with_reducible first | refine Ka _ ?_ | refine Ks _ (by first | exact Nat.le_refl _ | omega | (simp; done) | (simp; omega)) ?_ | refine Fd ?_ | refine Fn ?_ | refine Fb (by assumption) (by first | exact Nat.le_refl _ | omega | (simp; done) | (simp; omega)) ?_ | refine Fa _ (by first | exact Nat.le_refl _ | omega | (simp; done) | (simp; omega)) ?_ | refine Fs _ ?_)))), hb2, by omega, by omega⟩
    · rw [zeroDesk]; rfl
    · rw [zeroDesk]; rfl
    · rw [zeroDesk]; rfl
    · rw [Nat.add_assoc]
      exact hcell _ _ (by omega) (deskL_l _ _ _ (by omega))
    · have e : ∀ q, q < 3 → (deskL (.slice none 0 0) (.slice none 0 0) (.slice none 0 0))[52 + x * 21 + y * 3 + q]? = [Value.bool false, Value.int .i64 0, Value.bool false][q]? := fun q hq => by
        rw [show 52 + x * 21 + y * 3 + q = 52 + ((x * 7 + y) * 3 + q) by omega]
        exact deskL_f _ _ _ (by omega) hq
      exact ⟨hcell _ _ (by omega) (e 0 (by omega)), hcell _ _ (by omega) (e 1 (by omega)), hcell _ _ (by omega) (e 2 (by omega))⟩
    · exact Fa _ (by simp) (Fw rfl)
  rintro w2 ⟨h2, d0⟩
  have H2 := Lib.hid h2
  have ew : IntKind.i64.wrap ((r.n : Int) + 1) = (r.n : Int) + 1 := IntWalk.i64_in _ (by omega)
  clear h2 c0 c1 c2 HB1 H0
  obtain ⟨db, hdb⟩ : ∃ db, db = w1.heap.size := ⟨_, rfl⟩
  rw [← hdb] at H2 ⊢
  clear hdb hz1
  go_wp2_with fail
  clear d0
  go_loopw [30] (fun i wr => ∃ a : Nat, a ≤ r.n + 1 ∧ i = .int .i64 a ∧ Hid (OpAt W wr db (db + 1) r ⟨fun x y => if x < a ∧ x ≠ y then far else 0, fun _ _ => fc0⟩ bA bc dA dc vA vc (.slice none 0 0))) (fun i _ => r.n + 1 - (intOf i).toNat)
  case atStart => exact ⟨0, Nat.zero_le _, rfl, Lib.hid (H2.out.congr (fun x y _ _ => by show (0 : Int) = if x < 0 ∧ x ≠ y then far else 0; rw [if_neg (by omega)]) (fun _ _ => rfl))⟩
  case round =>
    clear H2
    obtain ⟨a, ha, rfl, H⟩ := hrel
    by_cases hlt : a < r.n + 1
    · have han : (a : Int) < (r.n : Int) + 1 := by omega
      have ha0 : (0 : Int) ≤ (a : Int) := by omega
      have ha7 : (a : Int) < 7 := by omega
      have ea : IntKind.i64.wrap ((a : Int) + 1) = (a : Int) + 1 := IntWalk.i64_in _ (by omega)
      go_wp2_with fail
      go_loopw [34] (fun i wr => ∃ b : Nat, b ≤ r.n + 1 ∧ i = .int .i64 b ∧ Hid (OpAt W wr db (db + 1) r ⟨fun x y => if (x < a ∨ x = a ∧ y < b) ∧ x ≠ y then far else 0, fun _ _ => fc0⟩ bA bc dA dc vA vc (.slice none 0 0))) (fun i _ => r.n + 1 - (intOf i).toNat)
      case atStart => exact ⟨0, Nat.zero_le _, rfl, Lib.hid (H.out.congr (fun x y _ _ => by show (if x < a ∧ x ≠ y then far else 0) = if (x < a ∨ x = a ∧ y < 0) ∧ x ≠ y then far else 0; by_cases h : x < a ∧ x ≠ y; rw [if_pos h, if_pos (by omega)]; rw [if_neg h, if_neg (by omega)]) (fun _ _ => rfl))⟩
      case round =>
        clear H
        obtain ⟨b, hb, rfl, H⟩ := hrel
        by_cases hlb : b < r.n + 1
        · have hbn : (b : Int) < (r.n : Int) + 1 := by omega
          have hb0 : (0 : Int) ≤ (b : Int) := by omega
          have hb7 : (b : Int) < 7 := by omega
          have eb : IntKind.i64.wrap ((b : Int) + 1) = (b : Int) + 1 := IntWalk.i64_in _ (by omega)
          by_cases hab : a = b
          · subst hab
            have heq : ((a : Int) != (a : Int)) = false := by simp
            go_wp2_with fail
            go_roundw
            case rel => exact ⟨a + 1, by omega, by go_num, Lib.hid (H.out.congr (fun x y _ _ => by
              show (if (x < a ∨ x = a ∧ y < a) ∧ x ≠ y then far else 0) = if (x < a ∨ x = a ∧ y < a + 1) ∧ x ≠ y then far else 0
              by_cases h : (x < a ∨ x = a ∧ y < a) ∧ x ≠ y
              · rw [if_pos h, if_pos (by omega)]
              · rw [if_neg h, if_neg (by omega)]) (fun _ _ => rfl))⟩
            case measure => simp [intOf]; omega
          · have hne : ((a : Int) != (b : Int)) = true := by simp; omega
            have p0 := H.out.p
            have l0 := H.out.d.l a b (by omega) (by omega)
            have f0 := H.out.d.fz (3 + a * 7 + b)
            have H' := Lib.hid ((H.out.setL hn6 (a := a) (b := b) (by omega) (by omega) far).congr (T := ⟨fun x y => if (x < a ∨ x = a ∧ y < b + 1) ∧ x ≠ y then far else 0, fun _ _ => fc0⟩) (fun x y _ _ => by
              show (if x = a ∧ y = b then far else if (x < a ∨ x = a ∧ y < b) ∧ x ≠ y then far else 0) = if (x < a ∨ x = a ∧ y < b + 1) ∧ x ≠ y then far else 0
              by_cases e : x = a ∧ y = b
              · rw [if_pos e, if_pos (by omega)]
              · rw [if_neg e]
                by_cases h : (x < a ∨ x = a ∧ y < b) ∧ x ≠ y
                · rw [if_pos h, if_pos (by omega)]
                · rw [if_neg h, if_neg (by omega)]) (fun _ _ => rfl))
            go_wp2_with fail
            go_roundw
            case rel => exact ⟨b + 1, by omega, by go_num, H'⟩
            case measure => simp [intOf]; omega
        · obtain rfl : b = r.n + 1 := by omega
          have hge : ¬ ((r.n + 1 : Nat) : Int) < (r.n : Int) + 1 := by omega
          go_wp2_with fail
          go_roundw
          case rel => exact ⟨a + 1, by omega, by go_num, Lib.hid (H.out.congr (fun x y hx hy => by
              show (if (x < a ∨ x = a ∧ y < r.n + 1) ∧ x ≠ y then far else 0) = if x < a + 1 ∧ x ≠ y then far else 0
              by_cases h : (x < a ∨ x = a ∧ y < r.n + 1) ∧ x ≠ y
              · rw [if_pos h, if_pos (by omega)]
              · rw [if_neg h, if_neg (by omega)]) (fun _ _ => rfl))⟩
          case measure => simp [intOf]; omega
    · obtain rfl : a = r.n + 1 := by omega
      have hge : ¬ ((r.n + 1 : Nat) : Int) < (r.n : Int) + 1 := by omega
      have HZ := Lib.hid (H.out.congr (T := Sk.zero) (fun x y hx hy => by
        show (if x < r.n + 1 ∧ x ≠ y then far else 0) = if x = y then 0 else far
        by_cases h : x = y
        · rw [if_neg (by omega), if_pos h]
        · rw [if_pos ⟨by omega, h⟩, if_neg h]) (fun _ _ => rfl))
      clear H
      obtain ⟨wo, rfl⟩ : ∃ wo, wo = wr := ⟨_, rfl⟩
      have p0 := HZ.out.p
      go_wp2_with fail
      refine (facts_any db _).mono ?_
      rintro e w3 ⟨rfl, hx3, hs3, hb3⟩
      obtain ⟨xb, hxb⟩ : ∃ xb, xb = wo.heap.size := ⟨_, rfl⟩
      rw [← hxb] at hx3 hs3 ⊢
      have H3 := Lib.hid (HZ.out.later hb3)
      have hpl := HZ.out.lt
      have hlt3 : db + 1 < w3.heap.size := H3.out.lt
      have hxl : xb < w3.heap.size := by omega
      have hpx : db + 1 < xb := by omega
      clear hb3 hxb hs3 HZ p0 hpl
      go_wp2_with fail
      refine wp_facts r (by omega) (by have := HR.out.m10; omega) xb db bA dA vA bc dc vc rfl rfl
        (fun pre Wx => OpAt W Wx db (db + 1) r (pre.foldl (Sk.put r) Sk.zero) bA bc dA dc vA vc (.slice none 0 0) ∧ Wx.cell? ⟨xb, 0, none⟩ = some (.pointer (some ⟨db, 0, none⟩)) ∧ w3.heap.size ≤ Wx.heap.size)
        (fun _ _ _ => False)
        (fun s A C ⟨h1, h2, h3⟩ hb => ⟨h1.over hlt3 hb, cell_same (hb.block _ hxl) h2, Nat.le_trans h3 hb.size⟩)
        (fun _ _ _ _ h _ => h) (fun _ _ h => ⟨h.2.1, h.1.d.a.a⟩) ⟨H3.out, hx3, Nat.le_refl _⟩
        ?fr ?assign ?body ?done ?stop
      case assign =>
        intro l pre x Wr K hi hK
        have HK := Lib.hid hK
        clear hK hi
        gi_wp2
        obtain ⟨Bx, hBx⟩ : ∃ Bx, Bx = Wr.heap.size := ⟨_, rfl⟩
        rw [← hBx]
        refine HK.out Bx _ hBx ?_ ?_
        · exact (by repeat (first | (with_reducible first | exact Below.refl _ _ | refine Below.drew ?_ | refine below_drewN ?_ _) | ((with_reducible first | refine Lc ?_ ?_ _ | refine Ls ?_ ?_ _ | refine Lv (by assumption) ?_ ?_); · first | exact Nat.le_refl _ | omega | (simp; done) | (simp; omega) | (simp at *; omega))))
        subst hBx
        exact ⟨(by (repeat' refine And.intro ?_ ?_) <;> (repeat (first | with_reducible assumption | (simp; done) | (with_reducible first | refine Kd ?_ | refine Kn ?_ | refine Kb (by assumption) ?_) | ((with_reducible first | refine Kw ?_ ?_ | refine Fw ?_) <;> first | with_reducible rfl | (simp; done)) | (with_reducible first | refine Ka _ ?_ | refine Ks _ (by first | exact Nat.le_refl _ | omega | (simp; done) | (simp; omega)) ?_ | refine Fd ?_ | refine Fn ?_ | refine Fb (by assumption) (by first | exact Nat.le_refl _ | omega | (simp; done) | (simp; omega)) ?_ | refine Fa _ (by first | exact Nat.le_refl _ | omega | (simp; done) | (simp; omega)) ?_ | refine Fs _ ?_)))), (by (repeat' refine And.intro ?_ ?_) <;> (repeat (first | with_reducible assumption | (simp; done) | (with_reducible first | refine Kd ?_ | refine Kn ?_ | refine Kb (by assumption) ?_) | ((with_reducible first | refine Kw ?_ ?_ | refine Fw ?_) <;> first | with_reducible rfl | (simp; done)) | (with_reducible first | refine Ka _ ?_ | refine Ks _ (by first | exact Nat.le_refl _ | omega | (simp; done) | (simp; omega)) ?_ | refine Fd ?_ | refine Fn ?_ | refine Fb (by assumption) (by first | exact Nat.le_refl _ | omega | (simp; done) | (simp; omega)) ?_ | refine Fa _ (by first | exact Nat.le_refl _ | omega | (simp; done) | (simp; omega)) ?_ | refine Fs _ ?_)))), (by (repeat' refine And.intro ?_ ?_) <;> (repeat (first | with_reducible assumption | (simp; done) | (with_reducible first | refine Kd ?_ | refine Kn ?_ | refine Kb (by assumption) ?_) | ((with_reducible first | refine Kw ?_ ?_ | refine Fw ?_) <;> first | with_reducible rfl | (simp; done)) | (with_reducible first | refine Ka _ ?_ | refine Ks _ (by first | exact Nat.le_refl _ | omega | (simp; done) | (simp; omega)) ?_ | refine Fd ?_ | refine Fn ?_ | refine Fb (by assumption) (by first | exact Nat.le_refl _ | omega | (simp; done) | (simp; omega)) ?_ | refine Fa _ (by first | exact Nat.le_refl _ | omega | (simp; done) | (simp; omega)) ?_ | refine Fs _ ?_))))⟩
      case body =>
        intro l pre x Bx Wr hi hBx hfc hpre hlt4
        have HI := Lib.hid hi
        have HFC := Lib.hid hfc
        have hh : r.has x := mem_facts.1 (hpre.subset (by simp))
        have HH := Lib.hid hh
        have p0 := hi.1.p
        obtain ⟨q0, q1, q2⟩ := hfc
        clear hi
        gi_wp2_with fail
        refine ⟨trivial, rfl, CallsIn.inRound _ (callsIn_wide.2 ((leads_any r HR.out x hh W.heap.size db bA dA vA bc dc vc _ HI.out.1.d.a).mono ?_))⟩
        rintro e w4 ⟨rfl, hb4⟩
        obtain ⟨ha1, hb1, -, -, -, hae, hbe⟩ := Rw.ab_bd HR.out hh
        have hld : ldV r x = .tuple #[.int .i64 ((r.a x : Nat) : Int), .int .i64 ((r.b x : Nat) : Int), .int .i64 (r.num x)] := by unfold ldV; rw [hae, hbe]
        rw [hld]
        obtain ⟨S, hS⟩ : ∃ S, S = pre.foldl (Sk.put r) Sk.zero := ⟨_, rfl⟩
        have HSS := Lib.hid hS
        have hput : (pre ++ [x]).foldl (Sk.put r) Sk.zero = S.put r x := by rw [List.foldl_append, hS]; rfl
        have HPT := Lib.hid hput
        have H4 := Lib.hid (show OpAt W w4 db (db + 1) r S bA bc dA dc vA vc (.slice none 0 0) from by rw [hS]; exact HI.out.1.later hb4)
        have HX4 := Lib.hid (Kb hb4 HI.out.2.1)
        have hs4 : w3.heap.size ≤ w4.heap.size := Nat.le_trans HI.out.2.2 hb4.size
        have HN4 := Lib.hid (NewFrom.below (B := w3.heap.size) hb4)
        have HF4 := Lib.hid (HFC.out.same (hb4.block _ HFC.out.lt))
        obtain ⟨a, ha⟩ : ∃ a, a = r.a x := ⟨_, rfl⟩
        obtain ⟨b, hb⟩ : ∃ b, b = r.b x := ⟨_, rfl⟩
        rw [← ha, ← hb]
        rw [← ha] at ha1
        rw [← hb] at hb1
        have HA := Lib.hid ha
        have HB := Lib.hid hb
        have hBxdb : db < Bx := by omega
        clear hae hbe hld hS hput hb4 ha hb hh p0 q0 q1 q2 HI HFC
        have p0 := H4.out.p
        obtain ⟨q0, q1, q2⟩ := HF4.out
        have l0 := H4.out.d.l a b ha1 hb1
        have f0 := H4.out.d.fz (3 + a * 7 + b)
        obtain ⟨g0, g1, g2⟩ := H4.out.d.f a b (by omega) (by omega)
        have e0 := H4.out.d.fz (52 + a * 21 + b * 3)
        have e1 := H4.out.d.fz (52 + a * 21 + b * 3 + 1)
        have e2 := H4.out.d.fz (52 + a * 21 + b * 3 + 2)
        have ha0 : (0 : Int) ≤ (a : Int) := by omega
        have ha7 : (a : Int) < 7 := by omega
        have hb0 : (0 : Int) ≤ (b : Int) := by omega
        have hb7 : (b : Int) < 7 := by omega
        by_cases hlt5 : r.num x < S.L a b
        · gi_wp2_with fail
          refine region_held_in (S := fun w' => w'.cell? ⟨db + 1, 0, none⟩ = some (.pointer (some ⟨db, 0, none⟩)) ∧ w'.cell? ⟨Bx, 0, none⟩ = some (.bool x.w) ∧ w'.cell? ⟨Bx, 1, none⟩ = some (.int .i64 x.i) ∧ w'.cell? ⟨Bx, 2, none⟩ = some (.bool x.m)) (by kernel_rfl) (by kernel_rfl) ⟨p0, q0, q1, q2⟩ (fun hHeld => ?_)
          refine wpAnyH_take (i := 0) (oi := ⟨some 69, _, _, _, _, _⟩) (v := .pointer (some ⟨db, 0, none⟩)) rfl (by kernel_rfl) (by kernel_rfl) (by kernel_rfl) (fun _ _ _ h => h) (Or.inl ⟨by kernel_rfl, (by intro w hSw; (try dsimp only at hSw); go_split_ands; go_simp)⟩) hHeld ?_; (try simp only [Act.put, List.setIfInBounds_toArray, List.set_cons_zero, List.set_cons_succ])
          refine wpAnyH_take (i := 1) (oi := ⟨some 70, _, _, _, _, _⟩) (v := .int .i64 (a : Int)) rfl (by kernel_rfl) (by kernel_rfl) (by kernel_rfl) (fun _ _ _ h => h) (Or.inl ⟨by kernel_rfl, (by intro w hSw; (try dsimp only at hSw); go_split_ands; go_simp)⟩) hHeld ?_; (try simp only [Act.put, List.setIfInBounds_toArray, List.set_cons_zero, List.set_cons_succ])
          refine wpAnyH_take (i := 2) (oi := ⟨some 71, _, _, _, _, _⟩) (v := .int .i64 (b : Int)) rfl (by kernel_rfl) (by kernel_rfl) (by kernel_rfl) (fun _ _ _ h => h) (Or.inl ⟨by kernel_rfl, (by intro w hSw; (try dsimp only at hSw); go_split_ands; go_simp)⟩) hHeld ?_; (try simp only [Act.put, List.setIfInBounds_toArray, List.set_cons_zero, List.set_cons_succ])
          refine wpAnyH_take (i := 3) (oi := ⟨some 72, _, _, _, _, _⟩) (v := .pointer (some ⟨db, 0, none⟩)) rfl (by kernel_rfl) (by kernel_rfl) (by kernel_rfl) (fun _ _ _ h => h) (Or.inl ⟨by kernel_rfl, (by intro w hSw; (try dsimp only at hSw); go_split_ands; go_simp)⟩) hHeld ?_; (try simp only [Act.put, List.setIfInBounds_toArray, List.set_cons_zero, List.set_cons_succ])
          refine wpAnyH_take (i := 4) (oi := ⟨some 73, _, _, _, _, _⟩) (v := .int .i64 (a : Int)) rfl (by kernel_rfl) (by kernel_rfl) (by kernel_rfl) (fun _ _ _ h => h) (Or.inl ⟨by kernel_rfl, (by intro w hSw; (try dsimp only at hSw); go_split_ands; go_simp)⟩) hHeld ?_; (try simp only [Act.put, List.setIfInBounds_toArray, List.set_cons_zero, List.set_cons_succ])
          refine wpAnyH_take (i := 5) (oi := ⟨some 74, _, _, _, _, _⟩) (v := .int .i64 (b : Int)) rfl (by kernel_rfl) (by kernel_rfl) (by kernel_rfl) (fun _ _ _ h => h) (Or.inl ⟨by kernel_rfl, (by intro w hSw; (try dsimp only at hSw); go_split_ands; go_simp)⟩) hHeld ?_; (try simp only [Act.put, List.setIfInBounds_toArray, List.set_cons_zero, List.set_cons_succ])
          refine wpAnyH_take (i := 6) (oi := ⟨some 75, _, _, _, _, _⟩) (v := .int .i64 (r.num x)) rfl (by kernel_rfl) (by kernel_rfl) (by kernel_rfl) (fun _ _ _ h => h) (Or.inl ⟨by kernel_rfl, (by intro w hSw; (try dsimp only at hSw); go_split_ands; go_simp)⟩) hHeld ?_; (try simp only [Act.put, List.setIfInBounds_toArray, List.set_cons_zero, List.set_cons_succ])
          refine wpAnyH_take (i := 7) (oi := ⟨some 76, _, _, _, _, _⟩) (v := fcV x) rfl (by kernel_rfl) (by kernel_rfl) (by kernel_rfl) (fun _ _ _ h => h) (Or.inl ⟨by kernel_rfl, (by intro w hSw; (try dsimp only at hSw); go_split_ands; go_simp)⟩) hHeld ?_; (try simp only [Act.put, List.setIfInBounds_toArray, List.set_cons_zero, List.set_cons_succ])
          refine wpAnyH_take (i := 8) (oi := ⟨some 77, _, _, _, _, _⟩) (v := .pointer (some ⟨db, 0, none⟩)) rfl (by kernel_rfl) (by kernel_rfl) (by kernel_rfl) (fun _ _ _ h => h) (Or.inl ⟨by kernel_rfl, (by intro w hSw; (try dsimp only at hSw); go_split_ands; go_simp)⟩) hHeld ?_; (try simp only [Act.put, List.setIfInBounds_toArray, List.set_cons_zero, List.set_cons_succ])
          refine wpAnyH_take (i := 9) (oi := ⟨some 78, _, _, _, _, _⟩) (v := .pointer (some ⟨db, 3, none⟩)) rfl (by kernel_rfl) (by kernel_rfl) (by kernel_rfl) (fun _ _ _ h => h) (Or.inl ⟨by kernel_rfl, (by intro w hSw; (try dsimp only at hSw); go_split_ands; go_simp)⟩) hHeld ?_; (try simp only [Act.put, List.setIfInBounds_toArray, List.set_cons_zero, List.set_cons_succ])
          refine wpAnyH_take (i := 10) (oi := ⟨some 79, _, _, _, _, _⟩) (v := .pointer (some ⟨db, 3 + a * 7, none⟩)) rfl (by kernel_rfl) (by kernel_rfl) (by kernel_rfl) (fun _ _ _ h => h) (Or.inl ⟨by kernel_rfl, (by intro w hSw; (try dsimp only at hSw); go_split_ands; go_simp)⟩) hHeld ?_; (try simp only [Act.put, List.setIfInBounds_toArray, List.set_cons_zero, List.set_cons_succ])
          refine wpAnyH_take (i := 11) (oi := ⟨some 80, _, _, _, _, _⟩) (v := .pointer (some ⟨db, 3 + a * 7 + b, none⟩)) rfl (by kernel_rfl) (by kernel_rfl) (by kernel_rfl) (fun _ _ _ h => h) (Or.inl ⟨by kernel_rfl, (by intro w hSw; (try dsimp only at hSw); go_split_ands; go_simp)⟩) hHeld ?_; (try simp only [Act.put, List.setIfInBounds_toArray, List.set_cons_zero, List.set_cons_succ])
          refine wpAnyH_take (i := 13) (oi := ⟨some 81, _, _, _, _, _⟩) (v := .pointer (some ⟨db, 0, none⟩)) rfl (by kernel_rfl) (by kernel_rfl) (by kernel_rfl) (fun _ _ _ h => h) (Or.inl ⟨by kernel_rfl, (by intro w hSw; (try dsimp only at hSw); go_split_ands; go_simp)⟩) hHeld ?_; (try simp only [Act.put, List.setIfInBounds_toArray, List.set_cons_zero, List.set_cons_succ])
          refine wpAnyH_take (i := 14) (oi := ⟨some 82, _, _, _, _, _⟩) (v := .pointer (some ⟨db, 52, none⟩)) rfl (by kernel_rfl) (by kernel_rfl) (by kernel_rfl) (fun _ _ _ h => h) (Or.inl ⟨by kernel_rfl, (by intro w hSw; (try dsimp only at hSw); go_split_ands; go_simp)⟩) hHeld ?_; (try simp only [Act.put, List.setIfInBounds_toArray, List.set_cons_zero, List.set_cons_succ])
          refine wpAnyH_take (i := 15) (oi := ⟨some 83, _, _, _, _, _⟩) (v := .pointer (some ⟨db, 52 + a * 21, none⟩)) rfl (by kernel_rfl) (by kernel_rfl) (by kernel_rfl) (fun _ _ _ h => h) (Or.inl ⟨by kernel_rfl, (by intro w hSw; (try dsimp only at hSw); go_split_ands; go_simp)⟩) hHeld ?_; (try simp only [Act.put, List.setIfInBounds_toArray, List.set_cons_zero, List.set_cons_succ])
          refine wpAnyH_ready (rs := [12]) (by kernel_rfl) (by simp) ?_
          refine AllReadyH.cons (o := ⟨none, _, _, _, _, _⟩) rfl (fun K hK => ?_) AllReadyH.nil
          rw [if_pos (by rfl)]
          go_simp
          refine hK _ _ ?_ (fun hHeld => ?_)
          · ((go_split_ands; (repeat' refine And.intro ?_ ?_) <;> (repeat (first | with_reducible assumption | (simp; done) | (with_reducible first | refine Kd ?_ | refine Kn ?_ | refine Kb (by assumption) ?_) | ((with_reducible first | refine Kw ?_ ?_ | refine Fw ?_) <;> first | with_reducible rfl | (simp; done)) | (with_reducible first | refine Ka _ ?_ | refine Ks _ (by first | exact Nat.le_refl _ | omega | (simp; done) | (simp; omega)) ?_ | refine Fd ?_ | refine Fn ?_ | refine Fb (by assumption) (by first | exact Nat.le_refl _ | omega | (simp; done) | (simp; omega)) ?_ | refine Fa _ (by first | exact Nat.le_refl _ | omega | (simp; done) | (simp; omega)) ?_ | refine Fs _ ?_)))))
          clear hK K
          have h5 := H4.out.setL hn6 ha1 hb1 (r.num x)
          have hkp5 : ∀ i, i ≠ db → (w4.setCell ⟨db, 3 + a * 7 + b, none⟩ (.int .i64 (r.num x))).heap[i]? = w4.heap[i]? := fun i hi => set_heap _ hi
          have hsz5 : (w4.setCell ⟨db, 3 + a * 7 + b, none⟩ (.int .i64 (r.num x))).heap.size = w4.heap.size := by simp [World.setCell]
          have HU := Lib.hid (H4.out.upd hn6 ha1 hb1 (r.num x) x)
          generalize w4.setCell ⟨db, 3 + a * 7 + b, none⟩ (.int .i64 (r.num x)) = w5 at *
          clear g0 g1 g2 e0 e1 e2 l0 f0 p0 q0 q1 q2
          obtain ⟨g0, g1, g2⟩ := h5.d.f a b (by omega) (by omega)
          have e0 := h5.d.fz (52 + a * 21 + b * 3)
          have e1 := h5.d.fz (52 + a * 21 + b * 3 + 1)
          have e2 := h5.d.fz (52 + a * 21 + b * 3 + 2)
          have hh5 := hHeld
          obtain ⟨p0, q0, q1, q2⟩ : w5.cell? ⟨db + 1, 0, none⟩ = some (.pointer (some ⟨db, 0, none⟩)) ∧ w5.cell? ⟨Bx, 0, none⟩ = some (.bool x.w) ∧ w5.cell? ⟨Bx, 1, none⟩ = some (.int .i64 x.i) ∧ w5.cell? ⟨Bx, 2, none⟩ = some (.bool x.m) := hh5
          have HK5 := Lib.hid hkp5
          have HZ5 := Lib.hid hsz5
          clear h5 hkp5 hsz5
          (try simp only [Act.put, List.setIfInBounds_toArray, List.set_cons_zero, List.set_cons_succ])
          refine wpAnyH_take (i := 16) (oi := ⟨some 84, _, _, _, _, _⟩) (v := .pointer (some ⟨db, 52 + a * 21 + b * 3, none⟩)) rfl (by kernel_rfl) (by kernel_rfl) (by kernel_rfl) (fun _ _ _ h => h) (Or.inl ⟨by kernel_rfl, (by intro w hSw; (try dsimp only at hSw); go_split_ands; go_simp)⟩) hHeld ?_; (try simp only [Act.put, List.setIfInBounds_toArray, List.set_cons_zero, List.set_cons_succ])
          refine wpAnyH_ready (rs := [17]) (by kernel_rfl) (by simp) ?_
          refine AllReadyH.cons (o := ⟨none, _, _, _, _, _⟩) rfl (fun K hK => ?_) AllReadyH.nil
          rw [if_pos (by rfl)]
          go_simp
          refine hK _ _ ?_ (fun hHeld => ?_)
          · ((go_split_ands; (repeat' refine And.intro ?_ ?_) <;> (repeat (first | with_reducible assumption | (simp; done) | (with_reducible first | refine Kd ?_ | refine Kn ?_ | refine Kb (by assumption) ?_) | ((with_reducible first | refine Kw ?_ ?_ | refine Fw ?_) <;> first | with_reducible rfl | (simp; done)) | (with_reducible first | refine Ka _ ?_ | refine Ks _ (by first | exact Nat.le_refl _ | omega | (simp; done) | (simp; omega)) ?_ | refine Fd ?_ | refine Fn ?_ | refine Fb (by assumption) (by first | exact Nat.le_refl _ | omega | (simp; done) | (simp; omega)) ?_ | refine Fa _ (by first | exact Nat.le_refl _ | omega | (simp; done) | (simp; omega)) ?_ | refine Fs _ ?_)))))
          clear hK K
          refine wpAnyH_done (by kernel_rfl) ?_ _
          have e3 : S.put r x = S.upd a b (r.num x) x := by unfold Sk.put; rw [← HA.out, ← HB.out, if_pos hlt5]
          have hlow : db < w3.heap.size := by omega
          refine ⟨NewFrom.drew (NewFrom.set _ hlow (NewFrom.set _ hlow (NewFrom.set _ hlow (HN4.out.trans ⟨by rw [HZ5.out]; exact Nat.le_refl _, fun i hi _ => HK5.out i (by omega)⟩)))), ?_, ?_, ?_⟩
          · rw [HPT.out, e3]
            exact HU.out.later (Below.drew (Below.refl _ _))
          · exact Kd (Ks _ (by dsimp only; omega) (Ks _ (by dsimp only; omega) (Ks _ (by dsimp only; omega) (cell_same (HK5.out xb (by omega)) HX4.out))))
          · have := HZ5.out
            simp [World.setCell]
            omega
        · have e3 : S.put r x = S := by unfold Sk.put; rw [if_neg (by rw [← HA.out, ← HB.out]; exact hlt5)]
          gi_wp2_with fail
          exact ⟨HN4.out, by rw [HPT.out, e3]; exact H4.out, HX4.out, hs4⟩
      case stop => exact fun _ _ _ _ _ _ h => h.elim
      case done =>
        rintro D Wd hD ⟨h1, -, h3⟩ hdef
        have HD0 := Lib.hid (show OpAt W Wd db (db + 1) r r.sk0 bA bc dA dc vA vc (.slice none 0 0) from h1)
        have HDEF := Lib.hid hdef
        have hDdb : db + 1 < D := by omega
        clear h1 h3 hdef hx3 H3
        go_wp2_with fail
        go_step3
        go_wp2_with fail
        go_loopw [86] (fun i wr => ∃ (k : Nat) (S : Sk) (N : Nat → Nat → Nat), k ≤ r.n + 1 ∧ i = .int .i64 k ∧ Hid (Inv r k S N) ∧ Hid (phN (r.n + 1) (r.sk0, none) k = (S, none)) ∧ Hid (OpAt W wr db (db + 1) r S bA bc dA dc vA vc (.slice none 0 0)) ∧ Hid (wr.heap[D]? = some (.deferred (some [])))) (fun i _ => r.n + 1 - (intOf i).toNat)
        case atStart => exact ⟨0, _, _, Nat.zero_le _, rfl, Lib.hid (Inv.start HR.out), Lib.hid rfl, HD0, HDEF⟩
        case round =>
          clear HD0 HDEF
          obtain ⟨k, S, N, hk, rfl, HI, HP, HO, HE⟩ := hrel
          by_cases hltk : k < r.n + 1
          · have hkn : (k : Int) < (r.n : Int) + 1 := by omega
            have hk0 : (0 : Int) ≤ (k : Int) := by omega
            have hk7 : (k : Int) < 7 := by omega
            have ek : IntKind.i64.wrap ((k : Int) + 1) = (k : Int) + 1 := IntWalk.i64_in _ (by omega)
            have HKK := Lib.hid (HI.out.z k (by omega))
            go_wp2_with fail
            go_loopw [90] (fun i wr => ∃ a : Nat, a ≤ r.n + 1 ∧ i = .int .i64 a ∧ Hid (∀ x, x < a → 0 ≤ S.L x k + S.L k x) ∧ Hid (rowN (r.n + 1) k (S, none) a = (S.mid k (seen (r.n + 1) a 0), none)) ∧ Hid (OpAt W wr db (db + 1) r (S.mid k (seen (r.n + 1) a 0)) bA bc dA dc vA vc (.slice none 0 0)) ∧ Hid (wr.heap[D]? = some (.deferred (some [])))) (fun i _ => r.n + 1 - (intOf i).toNat)
            case atStart => exact ⟨0, Nat.zero_le _, rfl, Lib.hid (fun x hx => absurd hx (by omega)), Lib.hid (by rw [mid_00]; rfl), Lib.hid (by rw [mid_00]; exact HO.out), HE⟩
            case round =>
              clear HO HE
              obtain ⟨a, ha, rfl, HND, HRN, HO, HE⟩ := hrel
              by_cases hlta : a < r.n + 1
              · have han : (a : Int) < (r.n : Int) + 1 := by omega
                have ha0 : (0 : Int) ≤ (a : Int) := by omega
                have ha7 : (a : Int) < 7 := by omega
                have ea : IntKind.i64.wrap ((a : Int) + 1) = (a : Int) + 1 := IntWalk.i64_in _ (by omega)
                have HAA := Lib.hid (HI.out.z a (by omega))
                go_wp2_with fail
                go_loopw [94] (fun i wr => ∃ b : Nat, b ≤ r.n + 1 ∧ i = .int .i64 b ∧ Hid (a < b → 0 ≤ S.L a k + S.L k a) ∧ Hid (OpAt W wr db (db + 1) r (S.mid k (seen (r.n + 1) a b)) bA bc dA dc vA vc (.slice none 0 0)) ∧ Hid (wr.heap[D]? = some (.deferred (some [])))) (fun i _ => r.n + 1 - (intOf i).toNat)
                case atStart => exact ⟨0, Nat.zero_le _, rfl, Lib.hid (fun h => absurd h (by omega)), HO, HE⟩
                case round =>
                  clear HO HE
                  obtain ⟨b, hb, rfl, HAB, HO, HE⟩ := hrel
                  by_cases hltb : b < r.n + 1
                  · have hbn : (b : Int) < (r.n : Int) + 1 := by omega
                    have hb0 : (0 : Int) ≤ (b : Int) := by omega
                    have hb7 : (b : Int) < 7 := by omega
                    have eb : IntKind.i64.wrap ((b : Int) + 1) = (b : Int) + 1 := IntWalk.i64_in _ (by omega)
                    have hM := Md_le k (by omega)
                    have hfar : far = 1073741824 := rfl
                    have d1 := HI.out.d a k (by omega) (by omega)
                    have d2 := HI.out.d k b (by omega) (by omega)
                    have p0 := HO.out.p
                    have l1 := HO.out.d.l a k (by omega) (by omega)
                    have l2 := HO.out.d.l k b (by omega) (by omega)
                    have l3 := HO.out.d.l a b (by omega) (by omega)
                    rw [(Sk.mid_col HKK.out a).1] at l1
                    rw [(Sk.mid_col HKK.out b).2.2] at l2
                    rw [mid_ab] at l3
                    obtain ⟨u, hu⟩ : ∃ u, u = S.L a k := ⟨_, rfl⟩
                    obtain ⟨v, hv⟩ : ∃ v, v = S.L k b := ⟨_, rfl⟩
                    obtain ⟨z, hz⟩ : ∃ z, z = S.L a b := ⟨_, rfl⟩
                    rw [← hu] at l1 d1
                    rw [← hv] at l2 d2
                    rw [← hz] at l3
                    have ew2 : IntKind.i64.wrap (u + v) = u + v := IntWalk.i64_in _ (by omega)
                    have HU := Lib.hid hu
                    have HV := Lib.hid hv
                    have HZ := Lib.hid hz
                    clear hu hv hz d1 d2 hfar hM
                    obtain ⟨wo, rfl⟩ : ∃ wo, wo = wr := ⟨_, rfl⟩
                    go_upto_region 30 with fail
                    go_region_held3 (fun w' => w'.cell? ⟨db + 1, 0, none⟩ = some (.pointer (some ⟨db, 0, none⟩)) ∧ w'.cell? ⟨db, 3 + a * 7 + k, none⟩ = some (.int .i64 u) ∧ w'.cell? ⟨db, 3 + k * 7 + b, none⟩ = some (.int .i64 v)) ((go_split_ands; (repeat' refine And.intro ?_ ?_) <;> (repeat (first | with_reducible assumption | (simp; done) | (with_reducible first | refine Kd ?_ | refine Kn ?_ | refine Kb (by assumption) ?_) | ((with_reducible first | refine Kw ?_ ?_ | refine Fw ?_) <;> first | with_reducible rfl | (simp; done)) | (with_reducible first | refine Ka _ ?_ | refine Ks _ (by first | exact Nat.le_refl _ | omega | (simp; done) | (simp; omega) | (simp at *; omega)) ?_ | refine Fd ?_ | refine Fn ?_ | refine Fb (by assumption) (by first | exact Nat.le_refl _ | omega | (simp; done) | (simp; omega) | (simp at *; omega)) ?_ | refine Fa _ (by first | exact Nat.le_refl _ | omega | (simp; done) | (simp; omega) | (simp at *; omega)) ?_ | refine Fs _ ?_))))) (fail)
                    by_cases hle : z ≤ u + v
                    · have HO2 := Lib.hid (show OpAt W wo.drew db (db + 1) r (S.mid k (seen (r.n + 1) a (b + 1))) bA bc dA dc vA vc (.slice none 0 0) from by
                        rw [stp_same HKK.out HAA.out (by rw [← HU.out, ← HV.out, ← HZ.out]; exact hle)]
                        exact HO.out.later (Below.drew (Below.refl _ _)))
                      have HAB2 : Hid (a < b + 1 → 0 ≤ S.L a k + S.L k a) := Lib.hid (fun h => by
                        by_cases e : a = b
                        · subst e
                          rw [← HU.out, ← HV.out]
                          have := HAA.out
                          rw [← HZ.out] at this
                          omega
                        · exact HAB.out (by omega))
                      have HE2 := Lib.hid (show wo.drew.heap[D]? = _ from HE.out)
                      clear l1 l2 HO HAB HE
                      go_wp2_with fail
                      go_roundw
                      case rel => exact ⟨b + 1, by omega, by go_num, HAB2, HO2, HE2⟩
                      case measure => simp [intOf]; omega
                    · by_cases hab : a = b
                      · subst hab
                        have heq : ((a : Int) == (a : Int)) = true := by simp
                        have hz0 : z = 0 := by rw [HZ.out]; exact HAA.out
                        have hlt0 : u + v < 0 := by omega
                        have hak : a ≠ k := by
                          rintro rfl
                          have h1 := HU.out
                          have h2 := HV.out
                          have h3 := HAA.out
                          omega
                        have hs : r.search = (S.mid k (seen (r.n + 1) a a), some (a, k)) := Rw.search_stop (k := k) (a := a) (m := a + 1) (by omega) (by omega) (by omega) (by rw [HP.out, HRN.out, stpN_mid HKK.out HAA.out, if_pos ⟨by omega, by rw [← HU.out, ← HV.out]; exact hlt0⟩]) rfl
                        obtain ⟨SM, hSM⟩ : ∃ SM, SM = S.mid k (seen (r.n + 1) a a) := ⟨_, rfl⟩
                        rw [← hSM] at hs HO
                        clear hSM
                        rcases Rw.round_spec HR.out with ⟨h1, -, -⟩ | ⟨a', k', h1, -, -, ⟨m1, m2, hrd, e1, e2, ch1, ch2, n1, n2⟩, -⟩
                        · rw [hs] at h1
                          simp at h1
                        rw [hs] at h1 e1 e2
                        simp only [Option.some.injEq, Prod.mk.injEq] at h1
                        obtain ⟨rfl, rfl⟩ := h1
                        dsimp only at e1 e2
                        have HW1 := Lib.hid (show Wk r SM.F k a m1 from by rw [e1]; exact Wk.of HR.out 7 a (by omega) (by rw [← e1]; exact ch1))
                        have HW2 := Lib.hid (show Wk r SM.F a k m2 from by rw [e2]; exact Wk.of HR.out 7 k (by omega) (by rw [← e2]; exact ch2))
                        have hm2 : m2 ≠ [] := by
                          rintro rfl
                          exact hak (show k = a from ch2).symm
                        have hl2 : 0 < m2.length := List.length_pos_iff.2 hm2
                        have HS := Lib.hid hs
                        have HRD := Lib.hid hrd
                        have HM2 := Lib.hid hm2
                        have hc5 := HO.out.d.rd
                        have hf5 := HO.out.d.fz 199
                        have hlt9 := HO.out.lt
                        have hh9 := HO.out.h
                        have p0 := HO.out.p
                        have hDl : D < wo.heap.size := by
                          by_cases h : D < wo.heap.size
                          · exact h
                          · have h1 := HE.out
                            rw [Array.getElem?_eq_none (by omega)] at h1
                            simp at h1
                        clear hs hrd hm2 e1 e2 ch1 ch2 l1 l2 HAB HP HRN HI HND hz0 hlt0 ew2 hc5 hf5
                        go_upto_region 33 with fail
                        refine opened_stop r HR.out W _ db a k SM bA dA vA bc dc vc m1 m2 (by omega) (by omega) HW1.out HW2.out n1 n2 HM2.out (HO.out.later (Below.drew (Below.refl _ _))) (fun w9 hst => ?_)
                        obtain ⟨A9, c9, hd9, ho9, hb9, hk9⟩ := hst
                        have p9 : w9.cell? ⟨db + 1, 0, none⟩ = some (.pointer (some ⟨db, 0, none⟩)) := cell_same (hk9 (db + 1) hlt9 (by omega)) p0
                        have HE9 : Hid (w9.heap[D]? = some (.deferred (some []))) := Lib.hid ((hk9 D hDl (by omega)).trans HE.out)
                        have HD9 := Lib.hid hd9
                        have HO9 := Lib.hid ho9
                        have HB9 := Lib.hid hb9
                        clear hd9 ho9 hb9 hk9 HO HE p0 l3 hle heq
                        go_wp2_with fail
                        rw [Exit.noGoto_ret]
                        refine ⟨by simp, .inl ⟨_, _, rfl, run_takeDeferred HE9.out, ?_⟩⟩
                        refine ⟨.tuple #[.pointer (some ⟨db, 0, none⟩), .int .i64 0], ?_, ?_⟩
                        · simp [results, Tryz.results80, go_sem]
                        exact opened_close r W w9 wo.drew db D bA dA vA bc dc vc SM _ (by rw [HS.out]) HRD.out A9 c9 HD9.out HO9.out HB9.out HE9.out hDdb hh9.1 (by simp; omega) (by simp; omega)
                      · have heq : ((a : Int) == (b : Int)) = false := by simp; omega
                        have hkb : k ≠ b := by
                          rintro rfl
                          have h1 := HU.out
                          have h2 := HV.out
                          have h3 := HZ.out
                          have h4 := HKK.out
                          omega
                        have HUP := Lib.hid (show OpAt W _ db (db + 1) r (S.mid k (seen (r.n + 1) a (b + 1))) bA bc dA dc vA vc (.slice none 0 0) from by
                          rw [stp_upd HKK.out HAA.out hab (by rw [← HU.out, ← HV.out, ← HZ.out]; exact hle), ← HU.out, ← HV.out]
                          exact (HO.out.later (Below.drew (Below.drew (Below.refl _ _)))).upd hn6 (by omega) (by omega) (u + v) (S.F a k))
                        have HE2 := Lib.hid HE.out
                        have hDl : D < wo.heap.size := by
                          by_cases h : D < wo.heap.size
                          · exact h
                          · have h1 := HE.out
                            rw [Array.getElem?_eq_none (by omega)] at h1
                            simp at h1
                        obtain ⟨f0, f1, f2⟩ := HO.out.d.f a k (by omega) (by omega)
                        rw [(Sk.mid_col HKK.out a).2.1] at f0 f1 f2
                        obtain ⟨g0, g1, g2⟩ := HO.out.d.f a b (by omega) (by omega)
                        have x3 := HO.out.d.fz
                        obtain ⟨X, hX⟩ : ∃ X, X = S.F a k := ⟨_, rfl⟩
                        rw [← hX] at f0 f1 f2 HUP
                        have HX := Lib.hid hX
                        clear hX l1 l2 HO HE
                        go_upto_region 34 with fail
                        refine opened_upd _ db a b k (u + v) z X ((S.mid k (seen (r.n + 1) a b)).F a b) (by omega) (by omega) (by omega) hkb p0 l3 x3 f0 f1 f2 g0 g1 g2 ?_
                        intros
                        have HE4 := Lib.hid ((set_heap (w := (((wo.drew.drew.setCell ⟨db, 3 + a * 7 + b, none⟩ (.int .i64 (u + v))).setCell ⟨db, 52 + a * 21 + b * 3, none⟩ (.bool X.w)).setCell ⟨db, 52 + a * 21 + b * 3 + 1, none⟩ (.int .i64 X.i))) (a := ⟨db, 52 + a * 21 + b * 3 + 2, none⟩) (.bool X.m) (show D ≠ db by omega)).trans ((set_heap _ (show D ≠ db by omega)).trans ((set_heap _ (show D ≠ db by omega)).trans ((set_heap _ (show D ≠ db by omega)).trans HE2.out))))
                        have HAB2 : Hid (a < b + 1 → 0 ≤ S.L a k + S.L k a) := Lib.hid (fun h => HAB.out (by omega))
                        clear p0 l3 x3 f0 f1 f2 g0 g1 g2 heq hle HE2 HAB
                        go_wp2_with fail
                        refine ⟨?_, ?measure⟩
                        case measure => simp [intOf]; omega
                        exact ⟨b + 1, by omega, by go_num, HAB2, HUP, HE4⟩
                  · obtain rfl : b = r.n + 1 := by omega
                    have hge3 : ¬ ((r.n + 1 : Nat) : Int) < (r.n : Int) + 1 := by omega
                    have HND2 : Hid (∀ x, x < a + 1 → 0 ≤ S.L x k + S.L k x) := Lib.hid (fun x hx => by
                      by_cases e : x = a
                      · subst e; exact HAB.out (by omega)
                      · exact HND.out x (by omega))
                    have HRN2 : Hid (rowN (r.n + 1) k (S, none) (a + 1) = (S.mid k (seen (r.n + 1) (a + 1) 0), none)) := Lib.hid (by
                      rw [rowN_succ, HRN.out, stpN_mid HKK.out HAA.out, if_neg (fun h => by have := HAB.out h.1; omega), seen_row])
                    have HO2 := Lib.hid (show OpAt W wr db (db + 1) r (S.mid k (seen (r.n + 1) (a + 1) 0)) bA bc dA dc vA vc (.slice none 0 0) from by rw [← seen_row]; exact HO.out)
                    go_wp2_with fail
                    go_roundw
                    case rel => exact ⟨a + 1, by omega, by go_num, HND2, HRN2, HO2, HE⟩
                    case measure => simp [intOf]; omega
              · obtain rfl : a = r.n + 1 := by omega
                have hge2 : ¬ ((r.n + 1 : Nat) : Int) < (r.n : Int) + 1 := by omega
                have HI2 := Lib.hid (Inv.step HR.out (by omega) HI.out (fun x hx => HND.out x (by omega)))
                have HP2 : Hid (phN (r.n + 1) (r.sk0, none) (k + 1) = (S.mid k (seen (r.n + 1) (r.n + 1) 0), none)) := Lib.hid (by rw [phN_succ, HP.out, HRN.out])
                go_wp2_with fail
                go_roundw
                case rel => exact ⟨k + 1, _, _, by omega, by go_num, HI2, HP2, HO, HE⟩
                case measure => simp [intOf]; omega
          · obtain rfl : k = r.n + 1 := by omega
            have hge1 : ¬ ((r.n + 1 : Nat) : Int) < (r.n : Int) + 1 := by omega
            have p0 := HO.out.p
            have HI9 := Lib.hid (show r.search = (S, none) from HP.out)
            clear HP HI
            go_wp2_with fail
            refine ⟨by simp, .inl ⟨_, _, rfl, run_takeDeferred HE.out, ?_⟩⟩
            refine ⟨.tuple #[.pointer (some ⟨db, 0, none⟩), .int .i64 0], ?_, ?_⟩
            · simp [results, Tryz.results80, go_sem]
            exact opened_close r W wr wr db D bA dA vA bc dc vc S [] (by rw [HI9.out]) (by unfold Rw.round; rw [HI9.out]) none 0 HO.out.d (World.ownsRow_nil _ _ _ _) HO.out.b HE.out hDdb HO.out.h.1 (lt_obj HE.out) HO.out.b.size
end Go.Proofs.YtnnikeolgknfoaaGreat
