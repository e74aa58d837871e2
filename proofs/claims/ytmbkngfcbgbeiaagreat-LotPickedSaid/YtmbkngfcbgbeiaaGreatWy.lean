/- Pays of package lot. -/
import Derived.Test.YtmbkngfcbgbeiaaGreatWx
import Derived.Test.YtmbkngfcbgbeiaaGreatWu
set_option linter.unusedSimpArgs false
set_option linter.unusedVariables false
namespace Go.Proofs.YtmbkngfcbgbeiaaGreat
open Go.RowKit Go.Shelf

/-- what the best plan brings -/
def St.top (st : St) : Int := (st.choose st.lots.toNat st.all).2
/-- what the best plans bring after 0 to k - 1 more foul sacks were found -/
def St.payAll (st : St) (p : Nat) (q : Int) : Nat → List Int
  | 0 => []
  | k + 1 => st.payAll p q k ++ if (st.more p q (k : Int)).check = 0 then [(st.more p q (k : Int)).top] else []
theorem St.payAll_len (st : St) (p : Nat) (q : Int) : ∀ k, (st.payAll p q k).length ≤ k
  | 0 => Nat.le_refl _
  | k + 1 => by
    have := St.payAll_len st p q k
    unfold St.payAll
    split <;> simp <;> omega
theorem St.more0 {st : St} (h : st.ok) {p : Nat} (hp : p < st.n) {q : Int} (hq : 0 ≤ q) (hq2 : q ≤ (st.P p).s - (st.P p).o) : (st.more p q 0).check = 0 := by
  refine St.check_ok.2 ⟨h.n1, h.n4, h.m4, fun k hk => ?_, h.gd, h.l0, h.l3, h.up, fun k hk => ?_⟩
  · have h1 := h.pk k hk
    show (if k = p then (st.P k).more q 0 else st.P k).rng
    split
    · subst k
      obtain ⟨a, b, c, d⟩ := h1
      exact ⟨a, b, ⟨by show 0 ≤ (st.P p).o + q; omega, by show (st.P p).o + q ≤ (st.P p).s; omega⟩, ⟨by show 0 ≤ (st.P p).f + 0; omega, by show (st.P p).f + 0 ≤ (st.P p).o + q; omega⟩⟩
    · exact h1
  · have h1 := h.sp k hk
    have h2 := h.pk k hk
    show (if k = p then (st.P k).more q 0 else st.P k).f ≤ (if k = p then (st.P k).more q 0 else st.P k).hi
    split
    · subst k
      obtain ⟨a, b, c, d⟩ := h2
      unfold Pk.hi at h1 ⊢
      show (st.P p).f + 0 ≤ min (st.P p).w ((st.P p).s - ((st.P p).o + q) + ((st.P p).f + 0))
      omega
    · exact h1
theorem St.payAll_pos {st : St} (h : st.ok) {p : Nat} (hp : p < st.n) {q : Int} (hq : 0 ≤ q) (hq2 : q ≤ (st.P p).s - (st.P p).o) : ∀ k, 0 < (st.payAll p q (k + 1)).length
  | 0 => by
    show 0 < ([] ++ if (st.more p q ((0 : Nat) : Int)).check = 0 then _ else _).length
    have h0 := St.more0 h hp hq hq2
    have e : ((0 : Nat) : Int) = 0 := rfl
    rw [e, if_pos h0]
    simp
  | k + 1 => by
    have := St.payAll_pos h hp hq hq2 k
    show 0 < (st.payAll p q (k + 1) ++ _).length
    simp only [List.length_append]
    omega
def St.payX (st : St) (p : Nat) (q : Int) (j : Nat) : Int := (st.payAll p q (q.toNat + 1)).getD j 0
def St.paysR (st : St) (p q : Int) : Int × Int × Int :=
  if st.check ≠ 0 then (0, 0, st.check) else if inB p 0 (st.n - 1) = false then (0, 0, 2)
  else if inB q 0 ((st.P p.toNat).s - (st.P p.toNat).o) = false then (0, 0, 4)
  else (minN (st.payX p.toNat q) ((st.payAll p.toNat q (q.toNat + 1)).length - 1), maxN (st.payX p.toNat q) ((st.payAll p.toNat q (q.toNat + 1)).length - 1), 0)

theorem in_bel (n lo hi : Int) (w : World) : Calls Tryz.prog 67 #[.int .i64 n, .int .i64 lo, .int .i64 hi] w fun e w' => e = .returned (.bool (inB n lo hi)) ∧ Below w.heap.size w w' :=
  (in_any n lo hi w).mono (fun _ _ h => ⟨h.1, h.2 ▸ Below.refl _ _⟩)

set_option maxRecDepth 100000 in
set_option maxHeartbeats 2000000 in
theorem Pays_no (st : St) (B : Nat) (pA gA : Option Addr) (pc gc : Nat) (p q : Int) (W : World) (hs : StRow W B st pA pc gA gc) (hno : st.check ≠ 0 ∨ inB p 0 (st.n - 1) = false) :
    Calls Tryz.prog 46 #[stV pA st.n pc gA st.m gc st.lots, .int .i64 p, .int .i64 q] W fun e W' => e = .returned (spV (st.paysR p q)) ∧ Below W.heap.size W W' := by
  have HS := Lib.hid hs
  have hB := hs.lt
  have HN := Lib.hid hno
  clear hs hno
  go_enter Tryz.func46, Tryz.ntmps46
  go_wp2_with fail
  refine (opened_st st B pA gA pc gc _ (HS.out.later (by repeat (first | (with_reducible exact Below.refl _ _) | (with_reducible refine Below.drew ?_) | (with_reducible refine below_drewN ?_ _) | ((with_reducible refine below_alloc ?_ ?_ _); · (first | exact Nat.le_refl _ | omega | (simp; done) | (simp; omega) | (simp at *; omega))) | ((with_reducible refine below_set ?_ ?_ _); · (first | exact Nat.le_refl _ | omega | (simp; done) | (simp; omega) | (simp at *; omega))) | ((with_reducible refine below_via (by with_reducible assumption) ?_ ?_); · (first | exact Nat.le_refl _ | omega | (simp; done) | (simp; omega) | (simp at *; omega))))))).mono ?_
  rintro e w1 ⟨hb1, ⟨hok, db, rfl, hD, hdb⟩ | ⟨hne, rfl⟩⟩
  · obtain ⟨hc1, hf1⟩ := bcell hb1; have hz1 := hb1.size; (try simp only [World.size_drew, World.heap_drewN, World.size_alloc] at hz1)
    have HO := Lib.hid hok
    have HD := Lib.hid hD
    have hc0 : Hid (st.check = 0) := Lib.hid (St.check_ok.2 hok)
    have a0 : w1.cell? ⟨W.heap.size + 1, 0, none⟩ = some (.int .i64 0) := (by repeat (first | (with_reducible assumption) | (simp; done) | (with_reducible refine cell_drew_of ?_) | (with_reducible refine cell_drewN_of ?_) | (with_reducible refine cell_below_of (by with_reducible assumption) ?_) | ((with_reducible refine cell_new_of ?_ ?_) <;> (first | (with_reducible rfl) | (simp; done))) | ((with_reducible refine fro_new_of ?_) <;> (first | (with_reducible rfl) | (simp; done))) | (with_reducible refine cell_alloc_of _ ?_) | (with_reducible refine cell_set_of _ (by (first | exact Nat.le_refl _ | omega | (simp; done) | (simp; omega) | (simp at *; omega))) ?_) | (with_reducible refine fro_drew_of ?_) | (with_reducible refine fro_drewN_of ?_) | (with_reducible refine fro_below_of (by with_reducible assumption) (by (first | exact Nat.le_refl _ | omega | (simp; done) | (simp; omega) | (simp at *; omega))) ?_) | (with_reducible refine fro_alloc_of _ (by (first | exact Nat.le_refl _ | omega | (simp; done) | (simp; omega) | (simp at *; omega))) ?_) | (with_reducible refine fro_set_of _ ?_))); have a1 : w1.cell? ⟨W.heap.size + 1, 1, none⟩ = some (.int .i64 0) := (by repeat (first | (with_reducible assumption) | (simp; done) | (with_reducible refine cell_drew_of ?_) | (with_reducible refine cell_drewN_of ?_) | (with_reducible refine cell_below_of (by with_reducible assumption) ?_) | ((with_reducible refine cell_new_of ?_ ?_) <;> (first | (with_reducible rfl) | (simp; done))) | ((with_reducible refine fro_new_of ?_) <;> (first | (with_reducible rfl) | (simp; done))) | (with_reducible refine cell_alloc_of _ ?_) | (with_reducible refine cell_set_of _ (by (first | exact Nat.le_refl _ | omega | (simp; done) | (simp; omega) | (simp at *; omega))) ?_) | (with_reducible refine fro_drew_of ?_) | (with_reducible refine fro_drewN_of ?_) | (with_reducible refine fro_below_of (by with_reducible assumption) (by (first | exact Nat.le_refl _ | omega | (simp; done) | (simp; omega) | (simp at *; omega))) ?_) | (with_reducible refine fro_alloc_of _ (by (first | exact Nat.le_refl _ | omega | (simp; done) | (simp; omega) | (simp at *; omega))) ?_) | (with_reducible refine fro_set_of _ ?_))); have f0 : w1.frozen? ⟨W.heap.size + 1, 0, none⟩ = false := (by repeat (first | (with_reducible assumption) | (simp; done) | (with_reducible refine cell_drew_of ?_) | (with_reducible refine cell_drewN_of ?_) | (with_reducible refine cell_below_of (by with_reducible assumption) ?_) | ((with_reducible refine cell_new_of ?_ ?_) <;> (first | (with_reducible rfl) | (simp; done))) | ((with_reducible refine fro_new_of ?_) <;> (first | (with_reducible rfl) | (simp; done))) | (with_reducible refine cell_alloc_of _ ?_) | (with_reducible refine cell_set_of _ (by (first | exact Nat.le_refl _ | omega | (simp; done) | (simp; omega) | (simp at *; omega))) ?_) | (with_reducible refine fro_drew_of ?_) | (with_reducible refine fro_drewN_of ?_) | (with_reducible refine fro_below_of (by with_reducible assumption) (by (first | exact Nat.le_refl _ | omega | (simp; done) | (simp; omega) | (simp at *; omega))) ?_) | (with_reducible refine fro_alloc_of _ (by (first | exact Nat.le_refl _ | omega | (simp; done) | (simp; omega) | (simp at *; omega))) ?_) | (with_reducible refine fro_set_of _ ?_))); have f1 : w1.frozen? ⟨W.heap.size + 1, 1, none⟩ = false := (by repeat (first | (with_reducible assumption) | (simp; done) | (with_reducible refine cell_drew_of ?_) | (with_reducible refine cell_drewN_of ?_) | (with_reducible refine cell_below_of (by with_reducible assumption) ?_) | ((with_reducible refine cell_new_of ?_ ?_) <;> (first | (with_reducible rfl) | (simp; done))) | ((with_reducible refine fro_new_of ?_) <;> (first | (with_reducible rfl) | (simp; done))) | (with_reducible refine cell_alloc_of _ ?_) | (with_reducible refine cell_set_of _ (by (first | exact Nat.le_refl _ | omega | (simp; done) | (simp; omega) | (simp at *; omega))) ?_) | (with_reducible refine fro_drew_of ?_) | (with_reducible refine fro_drewN_of ?_) | (with_reducible refine fro_below_of (by with_reducible assumption) (by (first | exact Nat.le_refl _ | omega | (simp; done) | (simp; omega) | (simp at *; omega))) ?_) | (with_reducible refine fro_alloc_of _ (by (first | exact Nat.le_refl _ | omega | (simp; done) | (simp; omega) | (simp at *; omega))) ?_) | (with_reducible refine fro_set_of _ ?_)))
    have hy : Hid (Below W.heap.size W w1) := Lib.hid (by repeat (first | (with_reducible exact Below.refl _ _) | (with_reducible refine Below.drew ?_) | (with_reducible refine below_drewN ?_ _) | ((with_reducible refine below_alloc ?_ ?_ _); · (first | exact Nat.le_refl _ | omega | (simp; done) | (simp; omega) | (simp at *; omega))) | ((with_reducible refine below_set ?_ ?_ _); · (first | exact Nat.le_refl _ | omega | (simp; done) | (simp; omega) | (simp at *; omega))) | ((with_reducible refine below_via (by with_reducible assumption) ?_ ?_); · (first | exact Nat.le_refl _ | omega | (simp; done) | (simp; omega) | (simp at *; omega)))))
    clear hc1 hf1 hb1 hok hD
    have hin : inB p 0 (st.n - 1) = false := HN.out.resolve_left (by simp [hc0.out])
    have HR : Hid (st.paysR p q = (0, 0, 2)) := Lib.hid (by unfold St.paysR; rw [if_neg (by simp [hc0.out]), if_pos hin])
    have hyo := hy.out
    go_wp2_with fail
    refine (picking_any st HO.out db p _ (HD.out.at (by omega))).mono ?_
    rintro e w2 ⟨rfl, rfl⟩
    go_wp2_with fail
    exact bodyPost_ret (v := spV (0, 0, 2)) (by simp [results, Tryz.results46, go_sem, a0, a1]) rfl ⟨by rw [HR.out], (by repeat (first | (with_reducible exact Below.refl _ _) | (with_reducible refine Below.drew ?_) | (with_reducible refine below_drewN ?_ _) | ((with_reducible refine below_alloc ?_ ?_ _); · (first | exact Nat.le_refl _ | omega | (simp; done) | (simp; omega) | (simp at *; omega))) | ((with_reducible refine below_set ?_ ?_ _); · (first | exact Nat.le_refl _ | omega | (simp; done) | (simp; omega) | (simp at *; omega))) | ((with_reducible refine below_via (by with_reducible assumption) ?_ ?_); · (first | exact Nat.le_refl _ | omega | (simp; done) | (simp; omega) | (simp at *; omega)))))⟩
  · have HR : Hid (st.paysR p q = (0, 0, st.check)) := Lib.hid (by unfold St.paysR; rw [if_pos hne])
    have hnb : (st.check != 0) = true := by simpa using hne
    obtain ⟨hc1, hf1⟩ := bcell hb1; have hz1 := hb1.size; (try simp only [World.size_drew, World.heap_drewN, World.size_alloc] at hz1)
    have a0 : w1.cell? ⟨W.heap.size + 1, 0, none⟩ = some (.int .i64 0) := (by repeat (first | (with_reducible assumption) | (simp; done) | (with_reducible refine cell_drew_of ?_) | (with_reducible refine cell_drewN_of ?_) | (with_reducible refine cell_below_of (by with_reducible assumption) ?_) | ((with_reducible refine cell_new_of ?_ ?_) <;> (first | (with_reducible rfl) | (simp; done))) | ((with_reducible refine fro_new_of ?_) <;> (first | (with_reducible rfl) | (simp; done))) | (with_reducible refine cell_alloc_of _ ?_) | (with_reducible refine cell_set_of _ (by (first | exact Nat.le_refl _ | omega | (simp; done) | (simp; omega) | (simp at *; omega))) ?_) | (with_reducible refine fro_drew_of ?_) | (with_reducible refine fro_drewN_of ?_) | (with_reducible refine fro_below_of (by with_reducible assumption) (by (first | exact Nat.le_refl _ | omega | (simp; done) | (simp; omega) | (simp at *; omega))) ?_) | (with_reducible refine fro_alloc_of _ (by (first | exact Nat.le_refl _ | omega | (simp; done) | (simp; omega) | (simp at *; omega))) ?_) | (with_reducible refine fro_set_of _ ?_))); have a1 : w1.cell? ⟨W.heap.size + 1, 1, none⟩ = some (.int .i64 0) := (by repeat (first | (with_reducible assumption) | (simp; done) | (with_reducible refine cell_drew_of ?_) | (with_reducible refine cell_drewN_of ?_) | (with_reducible refine cell_below_of (by with_reducible assumption) ?_) | ((with_reducible refine cell_new_of ?_ ?_) <;> (first | (with_reducible rfl) | (simp; done))) | ((with_reducible refine fro_new_of ?_) <;> (first | (with_reducible rfl) | (simp; done))) | (with_reducible refine cell_alloc_of _ ?_) | (with_reducible refine cell_set_of _ (by (first | exact Nat.le_refl _ | omega | (simp; done) | (simp; omega) | (simp at *; omega))) ?_) | (with_reducible refine fro_drew_of ?_) | (with_reducible refine fro_drewN_of ?_) | (with_reducible refine fro_below_of (by with_reducible assumption) (by (first | exact Nat.le_refl _ | omega | (simp; done) | (simp; omega) | (simp at *; omega))) ?_) | (with_reducible refine fro_alloc_of _ (by (first | exact Nat.le_refl _ | omega | (simp; done) | (simp; omega) | (simp at *; omega))) ?_) | (with_reducible refine fro_set_of _ ?_))); have f0 : w1.frozen? ⟨W.heap.size + 1, 0, none⟩ = false := (by repeat (first | (with_reducible assumption) | (simp; done) | (with_reducible refine cell_drew_of ?_) | (with_reducible refine cell_drewN_of ?_) | (with_reducible refine cell_below_of (by with_reducible assumption) ?_) | ((with_reducible refine cell_new_of ?_ ?_) <;> (first | (with_reducible rfl) | (simp; done))) | ((with_reducible refine fro_new_of ?_) <;> (first | (with_reducible rfl) | (simp; done))) | (with_reducible refine cell_alloc_of _ ?_) | (with_reducible refine cell_set_of _ (by (first | exact Nat.le_refl _ | omega | (simp; done) | (simp; omega) | (simp at *; omega))) ?_) | (with_reducible refine fro_drew_of ?_) | (with_reducible refine fro_drewN_of ?_) | (with_reducible refine fro_below_of (by with_reducible assumption) (by (first | exact Nat.le_refl _ | omega | (simp; done) | (simp; omega) | (simp at *; omega))) ?_) | (with_reducible refine fro_alloc_of _ (by (first | exact Nat.le_refl _ | omega | (simp; done) | (simp; omega) | (simp at *; omega))) ?_) | (with_reducible refine fro_set_of _ ?_))); have f1 : w1.frozen? ⟨W.heap.size + 1, 1, none⟩ = false := (by repeat (first | (with_reducible assumption) | (simp; done) | (with_reducible refine cell_drew_of ?_) | (with_reducible refine cell_drewN_of ?_) | (with_reducible refine cell_below_of (by with_reducible assumption) ?_) | ((with_reducible refine cell_new_of ?_ ?_) <;> (first | (with_reducible rfl) | (simp; done))) | ((with_reducible refine fro_new_of ?_) <;> (first | (with_reducible rfl) | (simp; done))) | (with_reducible refine cell_alloc_of _ ?_) | (with_reducible refine cell_set_of _ (by (first | exact Nat.le_refl _ | omega | (simp; done) | (simp; omega) | (simp at *; omega))) ?_) | (with_reducible refine fro_drew_of ?_) | (with_reducible refine fro_drewN_of ?_) | (with_reducible refine fro_below_of (by with_reducible assumption) (by (first | exact Nat.le_refl _ | omega | (simp; done) | (simp; omega) | (simp at *; omega))) ?_) | (with_reducible refine fro_alloc_of _ (by (first | exact Nat.le_refl _ | omega | (simp; done) | (simp; omega) | (simp at *; omega))) ?_) | (with_reducible refine fro_set_of _ ?_)))
    clear hc1 hf1 hne
    go_wp2_with fail
    exact bodyPost_ret (v := spV (0, 0, st.check)) (by simp [results, Tryz.results46, go_sem, a0, a1]) rfl ⟨by rw [HR.out], (by repeat (first | (with_reducible exact Below.refl _ _) | (with_reducible refine Below.drew ?_) | (with_reducible refine below_drewN ?_ _) | ((with_reducible refine below_alloc ?_ ?_ _); · (first | exact Nat.le_refl _ | omega | (simp; done) | (simp; omega) | (simp at *; omega))) | ((with_reducible refine below_set ?_ ?_ _); · (first | exact Nat.le_refl _ | omega | (simp; done) | (simp; omega) | (simp at *; omega))) | ((with_reducible refine below_via (by with_reducible assumption) ?_ ?_); · (first | exact Nat.le_refl _ | omega | (simp; done) | (simp; omega) | (simp at *; omega)))))⟩

set_option maxRecDepth 100000 in
set_option maxHeartbeats 2000000 in
theorem Pays_range (st : St) (B : Nat) (pA gA : Option Addr) (pc gc : Nat) (p : Nat) (q : Int) (W : World) (hs : StRow W B st pA pc gA gc) (hok : st.ok) (hp : p < st.n) (hq : inB q 0 ((st.P p).s - (st.P p).o) = false) :
    Calls Tryz.prog 46 #[stV pA st.n pc gA st.m gc st.lots, .int .i64 p, .int .i64 q] W fun e W' => e = .returned (spV (st.paysR p q)) ∧ Below W.heap.size W W' := by
  have HS := Lib.hid hs
  have hB := hs.lt
  have HO := Lib.hid hok
  have hnb : (st.check != 0) = false := by simp [St.check_ok.2 hok]
  have hp0 : (0 : Int) ≤ (p : Int) := by omega
  have hpn : (p : Int) < (st.n : Int) := by omega
  have hin : inB (p : Int) 0 ((st.n : Int) - 1) = true := by simp [inB]; omega
  have HR : Hid (st.paysR p q = (0, 0, 4)) := Lib.hid (by unfold St.paysR; rw [if_neg (by simp [St.check_ok.2 hok]), if_neg (by rw [hin]; decide), Int.toNat_natCast, if_pos hq])
  obtain ⟨⟨ha1, ha2⟩, _, ⟨ho1, ho2⟩, _⟩ := hok.pk p hp
  have ew : IntKind.i64.wrap ((st.P p).s - (st.P p).o) = (st.P p).s - (st.P p).o := IntWalk.i64_in _ (by omega)
  clear hs hok
  go_enter Tryz.func46, Tryz.ntmps46
  go_wp2_with fail
  refine (opened_st st B pA gA pc gc _ (HS.out.later (by repeat (first | (with_reducible exact Below.refl _ _) | (with_reducible refine Below.drew ?_) | (with_reducible refine below_drewN ?_ _) | ((with_reducible refine below_alloc ?_ ?_ _); · (first | exact Nat.le_refl _ | omega | (simp; done) | (simp; omega) | (simp at *; omega))) | ((with_reducible refine below_set ?_ ?_ _); · (first | exact Nat.le_refl _ | omega | (simp; done) | (simp; omega) | (simp at *; omega))) | ((with_reducible refine below_via (by with_reducible assumption) ?_ ?_); · (first | exact Nat.le_refl _ | omega | (simp; done) | (simp; omega) | (simp at *; omega))))))).mono ?_
  rintro e w1 ⟨hb1, ⟨_, db, rfl, hD, hdb⟩ | ⟨hne, rfl⟩⟩
  · obtain ⟨hc1, hf1⟩ := bcell hb1; have hz1 := hb1.size; (try simp only [World.size_drew, World.heap_drewN, World.size_alloc] at hz1)
    have HD := Lib.hid hD
    have a0 : w1.cell? ⟨W.heap.size + 1, 0, none⟩ = some (.int .i64 0) := (by repeat (first | (with_reducible assumption) | (simp; done) | (with_reducible refine cell_drew_of ?_) | (with_reducible refine cell_drewN_of ?_) | (with_reducible refine cell_below_of (by with_reducible assumption) ?_) | ((with_reducible refine cell_new_of ?_ ?_) <;> (first | (with_reducible rfl) | (simp; done))) | ((with_reducible refine fro_new_of ?_) <;> (first | (with_reducible rfl) | (simp; done))) | (with_reducible refine cell_alloc_of _ ?_) | (with_reducible refine cell_set_of _ (by (first | exact Nat.le_refl _ | omega | (simp; done) | (simp; omega) | (simp at *; omega))) ?_) | (with_reducible refine fro_drew_of ?_) | (with_reducible refine fro_drewN_of ?_) | (with_reducible refine fro_below_of (by with_reducible assumption) (by (first | exact Nat.le_refl _ | omega | (simp; done) | (simp; omega) | (simp at *; omega))) ?_) | (with_reducible refine fro_alloc_of _ (by (first | exact Nat.le_refl _ | omega | (simp; done) | (simp; omega) | (simp at *; omega))) ?_) | (with_reducible refine fro_set_of _ ?_))); have a1 : w1.cell? ⟨W.heap.size + 1, 1, none⟩ = some (.int .i64 0) := (by repeat (first | (with_reducible assumption) | (simp; done) | (with_reducible refine cell_drew_of ?_) | (with_reducible refine cell_drewN_of ?_) | (with_reducible refine cell_below_of (by with_reducible assumption) ?_) | ((with_reducible refine cell_new_of ?_ ?_) <;> (first | (with_reducible rfl) | (simp; done))) | ((with_reducible refine fro_new_of ?_) <;> (first | (with_reducible rfl) | (simp; done))) | (with_reducible refine cell_alloc_of _ ?_) | (with_reducible refine cell_set_of _ (by (first | exact Nat.le_refl _ | omega | (simp; done) | (simp; omega) | (simp at *; omega))) ?_) | (with_reducible refine fro_drew_of ?_) | (with_reducible refine fro_drewN_of ?_) | (with_reducible refine fro_below_of (by with_reducible assumption) (by (first | exact Nat.le_refl _ | omega | (simp; done) | (simp; omega) | (simp at *; omega))) ?_) | (with_reducible refine fro_alloc_of _ (by (first | exact Nat.le_refl _ | omega | (simp; done) | (simp; omega) | (simp at *; omega))) ?_) | (with_reducible refine fro_set_of _ ?_))); have f0 : w1.frozen? ⟨W.heap.size + 1, 0, none⟩ = false := (by repeat (first | (with_reducible assumption) | (simp; done) | (with_reducible refine cell_drew_of ?_) | (with_reducible refine cell_drewN_of ?_) | (with_reducible refine cell_below_of (by with_reducible assumption) ?_) | ((with_reducible refine cell_new_of ?_ ?_) <;> (first | (with_reducible rfl) | (simp; done))) | ((with_reducible refine fro_new_of ?_) <;> (first | (with_reducible rfl) | (simp; done))) | (with_reducible refine cell_alloc_of _ ?_) | (with_reducible refine cell_set_of _ (by (first | exact Nat.le_refl _ | omega | (simp; done) | (simp; omega) | (simp at *; omega))) ?_) | (with_reducible refine fro_drew_of ?_) | (with_reducible refine fro_drewN_of ?_) | (with_reducible refine fro_below_of (by with_reducible assumption) (by (first | exact Nat.le_refl _ | omega | (simp; done) | (simp; omega) | (simp at *; omega))) ?_) | (with_reducible refine fro_alloc_of _ (by (first | exact Nat.le_refl _ | omega | (simp; done) | (simp; omega) | (simp at *; omega))) ?_) | (with_reducible refine fro_set_of _ ?_))); have f1 : w1.frozen? ⟨W.heap.size + 1, 1, none⟩ = false := (by repeat (first | (with_reducible assumption) | (simp; done) | (with_reducible refine cell_drew_of ?_) | (with_reducible refine cell_drewN_of ?_) | (with_reducible refine cell_below_of (by with_reducible assumption) ?_) | ((with_reducible refine cell_new_of ?_ ?_) <;> (first | (with_reducible rfl) | (simp; done))) | ((with_reducible refine fro_new_of ?_) <;> (first | (with_reducible rfl) | (simp; done))) | (with_reducible refine cell_alloc_of _ ?_) | (with_reducible refine cell_set_of _ (by (first | exact Nat.le_refl _ | omega | (simp; done) | (simp; omega) | (simp at *; omega))) ?_) | (with_reducible refine fro_drew_of ?_) | (with_reducible refine fro_drewN_of ?_) | (with_reducible refine fro_below_of (by with_reducible assumption) (by (first | exact Nat.le_refl _ | omega | (simp; done) | (simp; omega) | (simp at *; omega))) ?_) | (with_reducible refine fro_alloc_of _ (by (first | exact Nat.le_refl _ | omega | (simp; done) | (simp; omega) | (simp at *; omega))) ?_) | (with_reducible refine fro_set_of _ ?_)))
    have s0 : w1.cell? ⟨W.heap.size, 0, none⟩ = some (.slice pA st.n pc) := (by repeat (first | (with_reducible assumption) | (simp; done) | (with_reducible refine cell_drew_of ?_) | (with_reducible refine cell_drewN_of ?_) | (with_reducible refine cell_below_of (by with_reducible assumption) ?_) | ((with_reducible refine cell_new_of ?_ ?_) <;> (first | (with_reducible rfl) | (simp; done))) | ((with_reducible refine fro_new_of ?_) <;> (first | (with_reducible rfl) | (simp; done))) | (with_reducible refine cell_alloc_of _ ?_) | (with_reducible refine cell_set_of _ (by (first | exact Nat.le_refl _ | omega | (simp; done) | (simp; omega) | (simp at *; omega))) ?_) | (with_reducible refine fro_drew_of ?_) | (with_reducible refine fro_drewN_of ?_) | (with_reducible refine fro_below_of (by with_reducible assumption) (by (first | exact Nat.le_refl _ | omega | (simp; done) | (simp; omega) | (simp at *; omega))) ?_) | (with_reducible refine fro_alloc_of _ (by (first | exact Nat.le_refl _ | omega | (simp; done) | (simp; omega) | (simp at *; omega))) ?_) | (with_reducible refine fro_set_of _ ?_)))
    have hy : Hid (Below W.heap.size W w1) := Lib.hid (by repeat (first | (with_reducible exact Below.refl _ _) | (with_reducible refine Below.drew ?_) | (with_reducible refine below_drewN ?_ _) | ((with_reducible refine below_alloc ?_ ?_ _); · (first | exact Nat.le_refl _ | omega | (simp; done) | (simp; omega) | (simp at *; omega))) | ((with_reducible refine below_set ?_ ?_ _); · (first | exact Nat.le_refl _ | omega | (simp; done) | (simp; omega) | (simp at *; omega))) | ((with_reducible refine below_via (by with_reducible assumption) ?_ ?_); · (first | exact Nat.le_refl _ | omega | (simp; done) | (simp; omega) | (simp at *; omega)))))
    clear hc1 hf1 hb1 hD
    have hyo := hy.out
    go_wp2_with fail
    refine (picking_any st HO.out db p _ (HD.out.at (by omega))).mono ?_
    rintro e w2 ⟨rfl, rfl⟩
    obtain ⟨b, o, rfl, hb', c0, c1, c2, c3⟩ := (HS.out.p.below (hy.out.mono hB)) p hp
    go_wp2_with fail
    refine region_qbw (by kernel_rfl) (by kernel_rfl) ?_
    have x0 := cell_regrown s0
    have x1 := cell_regrown c0
    have x2 := cell_regrown c2
    repeat (first | go_big_quiet_step ((go_at_call 67; exact Calls.regrown_of (in_bel _ _ _ _))) | quiet_step ((go_at_call 67; exact Calls.regrown_of (in_bel _ _ _ _))))
    refine wpQuiet_nil ?_; intro wq hbq
    rw [hq]
    obtain ⟨⟨a0, a1⟩, f0, f1⟩ := (show Z2 w1 (W.heap.size + 1) from ⟨⟨a0, a1⟩, f0, f1⟩).later hbq
    have hyq := hyo.trans (hbq.mono (by omega))
    clear c0 c1 c2 c3 s0 x0 x1 x2
    go_wp2_with fail
    exact bodyPost_ret (v := spV (0, 0, 4)) (by simp [results, Tryz.results46, go_sem, a0, a1]) rfl ⟨by rw [HR.out], (by repeat (first | (with_reducible exact Below.refl _ _) | (with_reducible refine Below.drew ?_) | (with_reducible refine below_drewN ?_ _) | ((with_reducible refine below_alloc ?_ ?_ _); · (first | exact Nat.le_refl _ | omega | (simp; done) | (simp; omega) | (simp at *; omega))) | ((with_reducible refine below_set ?_ ?_ _); · (first | exact Nat.le_refl _ | omega | (simp; done) | (simp; omega) | (simp at *; omega))) | ((with_reducible refine below_via (by with_reducible assumption) ?_ ?_); · (first | exact Nat.le_refl _ | omega | (simp; done) | (simp; omega) | (simp at *; omega)))))⟩
  · exact absurd (St.check_ok.2 HO.out) hne

theorem infoInt : (Tryz.prog.info? 3).map (fun i => (i.zero, i.size, i.bytes)) = some (some (.int .i64 0), 1, 8) := by kernel_rfl
theorem ints_under : Tryz.prog.underlying 38 = some (.slice 3) := by kernel_rfl
def intCells (L : List Int) : List Value := L.map (Value.int .i64)
theorem intCells_snoc (L : List Int) (x : Int) : intCells (L ++ [x]) = intCells L ++ [.int .i64 x] := by simp [intCells]
theorem intRow_of_owns {w : World} {base : Nat} {v : Value} {L : List Int} (h : w.ownsRow base 3 1 v L.length (intCells L)) : ∃ A c, v = .slice A L.length c ∧ IntRow w w.heap.size A L.length (fun j => L.getD j 0) ∧ L.length ≤ c := by
  rcases h.2 with ⟨rfl, h0⟩ | ⟨g, cap, cur, rfl, hb, hg, hc, _⟩
  · refine ⟨none, 0, by rw [h0], fun k hk => by omega, by omega⟩
  · refine ⟨some ⟨g, 0, none⟩, cap, rfl, fun k hk => ⟨g, 0, rfl, (Array.getElem?_eq_some_iff.1 hg).1, ?_⟩, hc⟩
    have h1 := h.cells (g := g) rfl k (.int .i64 (L.getD k 0)) (by simp [intCells, List.getD, hk])
    rwa [show ((⟨g, 0, none⟩ : Addr).add k) = ⟨g, 0 + k, none⟩ by by_cases hj : k = 0 <;> simp [Addr.add, hj]] at h1

theorem owns_later {w w' : World} {base : Nat} {e : TypeId} {size : Nat} {v : Value} {n : Nat} {xs : List Value} (h : w.ownsRow base e size v n xs) (hb : Below w.heap.size w w') : w'.ownsRow base e size v n xs :=
  ⟨h.1, h.2.imp id (fun ⟨g, cap, cur, a, b, c, d⟩ => ⟨g, cap, cur, a, b, (hb.block g (Array.getElem?_eq_some_iff.1 c).1).trans c, d⟩)⟩

set_option maxRecDepth 100000 in
set_option maxHeartbeats 4000000 in
theorem Pays_yes (st : St) (B : Nat) (pA gA : Option Addr) (pc gc : Nat) (p : Nat) (q : Nat) (W : World) (hs : StRow W B st pA pc gA gc) (hok : st.ok) (hp : p < st.n) (hq : (q : Int) ≤ (st.P p).s - (st.P p).o) :
    Calls Tryz.prog 46 #[stV pA st.n pc gA st.m gc st.lots, .int .i64 p, .int .i64 q] W fun e W' => e = .returned (spV (st.paysR p q)) ∧ Below W.heap.size W W' := by
  have HS := Lib.hid hs
  have hB := hs.lt
  have HO := Lib.hid hok
  have hnb : (st.check != 0) = false := by simp [St.check_ok.2 hok]
  have hp0 : (0 : Int) ≤ (p : Int) := by omega
  have hpn : (p : Int) < (st.n : Int) := by omega
  have hin : inB (p : Int) 0 ((st.n : Int) - 1) = true := by simp [inB]; omega
  have hiq : inB (q : Int) 0 ((st.P p).s - (st.P p).o) = true := by simp [inB]; omega
  have HR : Hid (st.paysR p q = (minN (st.payX p q) ((st.payAll p q (q + 1)).length - 1), maxN (st.payX p q) ((st.payAll p q (q + 1)).length - 1), 0)) := Lib.hid (by unfold St.paysR; rw [if_neg (by simp [St.check_ok.2 hok]), if_neg (by rw [hin]; decide), Int.toNat_natCast, Int.toNat_natCast, if_neg (by rw [hiq]; decide)])
  have HPOS := Lib.hid (St.payAll_pos hok hp (by omega) hq q)
  obtain ⟨⟨ha1, ha2⟩, _, ⟨ho1, ho2⟩, _⟩ := hok.pk p hp
  have ew : IntKind.i64.wrap ((st.P p).s - (st.P p).o) = (st.P p).s - (st.P p).o := IntWalk.i64_in _ (by omega)
  have hq6 : q ≤ 6 := by omega
  have eq1 : IntKind.i64.wrap ((q : Int) + 1) = (q : Int) + 1 := IntWalk.i64_in _ (by omega)
  clear hs hok
  go_enter Tryz.func46, Tryz.ntmps46
  go_wp2_with fail
  refine (opened_st st B pA gA pc gc _ (HS.out.later (by repeat (first | (with_reducible exact Below.refl _ _) | (with_reducible refine Below.drew ?_) | (with_reducible refine below_drewN ?_ _) | ((with_reducible refine below_alloc ?_ ?_ _); · (first | exact Nat.le_refl _ | omega | (simp; done) | (simp; omega) | (simp at *; omega))) | ((with_reducible refine below_set ?_ ?_ _); · (first | exact Nat.le_refl _ | omega | (simp; done) | (simp; omega) | (simp at *; omega))) | ((with_reducible refine below_via (by with_reducible assumption) ?_ ?_); · (first | exact Nat.le_refl _ | omega | (simp; done) | (simp; omega) | (simp at *; omega))))))).mono ?_
  rintro e w1 ⟨hb1, ⟨_, db, rfl, hD, hdb⟩ | ⟨hne, rfl⟩⟩
  · obtain ⟨hc1, hf1⟩ := bcell hb1; have hz1 := hb1.size; (try simp only [World.size_drew, World.heap_drewN, World.size_alloc] at hz1)
    have HD := Lib.hid hD
    have a0 : w1.cell? ⟨W.heap.size + 1, 0, none⟩ = some (.int .i64 0) := (by repeat (first | (with_reducible assumption) | (simp; done) | (with_reducible refine cell_drew_of ?_) | (with_reducible refine cell_drewN_of ?_) | (with_reducible refine cell_below_of (by with_reducible assumption) ?_) | ((with_reducible refine cell_new_of ?_ ?_) <;> (first | (with_reducible rfl) | (simp; done))) | ((with_reducible refine fro_new_of ?_) <;> (first | (with_reducible rfl) | (simp; done))) | (with_reducible refine cell_alloc_of _ ?_) | (with_reducible refine cell_set_of _ (by (first | exact Nat.le_refl _ | omega | (simp; done) | (simp; omega) | (simp at *; omega))) ?_) | (with_reducible refine fro_drew_of ?_) | (with_reducible refine fro_drewN_of ?_) | (with_reducible refine fro_below_of (by with_reducible assumption) (by (first | exact Nat.le_refl _ | omega | (simp; done) | (simp; omega) | (simp at *; omega))) ?_) | (with_reducible refine fro_alloc_of _ (by (first | exact Nat.le_refl _ | omega | (simp; done) | (simp; omega) | (simp at *; omega))) ?_) | (with_reducible refine fro_set_of _ ?_))); have a1 : w1.cell? ⟨W.heap.size + 1, 1, none⟩ = some (.int .i64 0) := (by repeat (first | (with_reducible assumption) | (simp; done) | (with_reducible refine cell_drew_of ?_) | (with_reducible refine cell_drewN_of ?_) | (with_reducible refine cell_below_of (by with_reducible assumption) ?_) | ((with_reducible refine cell_new_of ?_ ?_) <;> (first | (with_reducible rfl) | (simp; done))) | ((with_reducible refine fro_new_of ?_) <;> (first | (with_reducible rfl) | (simp; done))) | (with_reducible refine cell_alloc_of _ ?_) | (with_reducible refine cell_set_of _ (by (first | exact Nat.le_refl _ | omega | (simp; done) | (simp; omega) | (simp at *; omega))) ?_) | (with_reducible refine fro_drew_of ?_) | (with_reducible refine fro_drewN_of ?_) | (with_reducible refine fro_below_of (by with_reducible assumption) (by (first | exact Nat.le_refl _ | omega | (simp; done) | (simp; omega) | (simp at *; omega))) ?_) | (with_reducible refine fro_alloc_of _ (by (first | exact Nat.le_refl _ | omega | (simp; done) | (simp; omega) | (simp at *; omega))) ?_) | (with_reducible refine fro_set_of _ ?_))); have f0 : w1.frozen? ⟨W.heap.size + 1, 0, none⟩ = false := (by repeat (first | (with_reducible assumption) | (simp; done) | (with_reducible refine cell_drew_of ?_) | (with_reducible refine cell_drewN_of ?_) | (with_reducible refine cell_below_of (by with_reducible assumption) ?_) | ((with_reducible refine cell_new_of ?_ ?_) <;> (first | (with_reducible rfl) | (simp; done))) | ((with_reducible refine fro_new_of ?_) <;> (first | (with_reducible rfl) | (simp; done))) | (with_reducible refine cell_alloc_of _ ?_) | (with_reducible refine cell_set_of _ (by (first | exact Nat.le_refl _ | omega | (simp; done) | (simp; omega) | (simp at *; omega))) ?_) | (with_reducible refine fro_drew_of ?_) | (with_reducible refine fro_drewN_of ?_) | (with_reducible refine fro_below_of (by with_reducible assumption) (by (first | exact Nat.le_refl _ | omega | (simp; done) | (simp; omega) | (simp at *; omega))) ?_) | (with_reducible refine fro_alloc_of _ (by (first | exact Nat.le_refl _ | omega | (simp; done) | (simp; omega) | (simp at *; omega))) ?_) | (with_reducible refine fro_set_of _ ?_))); have f1 : w1.frozen? ⟨W.heap.size + 1, 1, none⟩ = false := (by repeat (first | (with_reducible assumption) | (simp; done) | (with_reducible refine cell_drew_of ?_) | (with_reducible refine cell_drewN_of ?_) | (with_reducible refine cell_below_of (by with_reducible assumption) ?_) | ((with_reducible refine cell_new_of ?_ ?_) <;> (first | (with_reducible rfl) | (simp; done))) | ((with_reducible refine fro_new_of ?_) <;> (first | (with_reducible rfl) | (simp; done))) | (with_reducible refine cell_alloc_of _ ?_) | (with_reducible refine cell_set_of _ (by (first | exact Nat.le_refl _ | omega | (simp; done) | (simp; omega) | (simp at *; omega))) ?_) | (with_reducible refine fro_drew_of ?_) | (with_reducible refine fro_drewN_of ?_) | (with_reducible refine fro_below_of (by with_reducible assumption) (by (first | exact Nat.le_refl _ | omega | (simp; done) | (simp; omega) | (simp at *; omega))) ?_) | (with_reducible refine fro_alloc_of _ (by (first | exact Nat.le_refl _ | omega | (simp; done) | (simp; omega) | (simp at *; omega))) ?_) | (with_reducible refine fro_set_of _ ?_)))
    have s0 : w1.cell? ⟨W.heap.size, 0, none⟩ = some (.slice pA st.n pc) := (by repeat (first | (with_reducible assumption) | (simp; done) | (with_reducible refine cell_drew_of ?_) | (with_reducible refine cell_drewN_of ?_) | (with_reducible refine cell_below_of (by with_reducible assumption) ?_) | ((with_reducible refine cell_new_of ?_ ?_) <;> (first | (with_reducible rfl) | (simp; done))) | ((with_reducible refine fro_new_of ?_) <;> (first | (with_reducible rfl) | (simp; done))) | (with_reducible refine cell_alloc_of _ ?_) | (with_reducible refine cell_set_of _ (by (first | exact Nat.le_refl _ | omega | (simp; done) | (simp; omega) | (simp at *; omega))) ?_) | (with_reducible refine fro_drew_of ?_) | (with_reducible refine fro_drewN_of ?_) | (with_reducible refine fro_below_of (by with_reducible assumption) (by (first | exact Nat.le_refl _ | omega | (simp; done) | (simp; omega) | (simp at *; omega))) ?_) | (with_reducible refine fro_alloc_of _ (by (first | exact Nat.le_refl _ | omega | (simp; done) | (simp; omega) | (simp at *; omega))) ?_) | (with_reducible refine fro_set_of _ ?_)))
    have hy : Hid (Below W.heap.size W w1) := Lib.hid (by repeat (first | (with_reducible exact Below.refl _ _) | (with_reducible refine Below.drew ?_) | (with_reducible refine below_drewN ?_ _) | ((with_reducible refine below_alloc ?_ ?_ _); · (first | exact Nat.le_refl _ | omega | (simp; done) | (simp; omega) | (simp at *; omega))) | ((with_reducible refine below_set ?_ ?_ _); · (first | exact Nat.le_refl _ | omega | (simp; done) | (simp; omega) | (simp at *; omega))) | ((with_reducible refine below_via (by with_reducible assumption) ?_ ?_); · (first | exact Nat.le_refl _ | omega | (simp; done) | (simp; omega) | (simp at *; omega)))))
    clear hc1 hf1 hb1 hD
    simp only [World.size_alloc] at hdb
    have hyo := hy.out
    go_wp2_with fail
    refine (picking_any st HO.out db p _ (HD.out.at (by omega))).mono ?_
    rintro e w2 ⟨rfl, rfl⟩
    obtain ⟨b, o, rfl, hb', c0, c1, c2, c3⟩ := (HS.out.p.below (hy.out.mono hB)) p hp
    go_wp2_with fail
    refine region_qbw (by kernel_rfl) (by kernel_rfl) ?_
    have x0 := cell_regrown s0
    have x1 := cell_regrown c0
    have x2 := cell_regrown c2
    repeat (first | go_big_quiet_step ((go_at_call 67; exact Calls.regrown_of (in_bel _ _ _ _))) | quiet_step ((go_at_call 67; exact Calls.regrown_of (in_bel _ _ _ _))))
    refine wpQuiet_nil ?_; intro wq hbq
    rw [hiq]
    have hz2 := Lib.hid ((show Z2 w1 (W.heap.size + 1) from ⟨⟨a0, a1⟩, f0, f1⟩).later hbq)
    have hyq := Lib.hid (hyo.trans (hbq.mono (by omega)))
    have HDQ := Lib.hid (HD.out.later (by omega) hbq)
    have hsq := hbq.size
    clear c0 c1 c2 c3 s0 x0 x1 x2 a0 a1 f0 f1 hbq hyo
    obtain ⟨i0, hi, hz0, hz1, hz2'⟩ := info_parts infoInt
    go_wp2_with fail
    go_loopw [10, 52] (fun v i wr => ∃ k : Nat, k ≤ q + 1 ∧ i = .int .i64 k ∧ Hid (wr.ownsRow wq.heap.size 3 1 v (st.payAll p q k).length (intCells (st.payAll p q k))) ∧ Hid (Below wq.heap.size wq wr)) (fun _ i _ => q + 1 - (intOf i).toNat)
    case atStart => exact ⟨0, Nat.zero_le _, rfl, Lib.hid (World.ownsRow_nil _ _ _ _), Lib.hid (Below.refl _ _)⟩
    case round =>
      obtain ⟨k, hk, rfl, hown, hbw⟩ := hrel
      by_cases hlt : k < q + 1
      · have HDR := Lib.hid (HDQ.out.later (by omega) hbw.out)
        have hsr := hbw.out.size
        have hlt' : (k : Int) < (q : Int) + 1 := by omega
        have hv1 := hown.out.lt
        have hlen := St.payAll_len st p q k
        go_wp2_with fail
        refine (more_any st HO.out db p q k hp ⟨by omega, by omega⟩ ⟨by omega, by omega⟩ _ ((HDR.out.at (by omega)).later (by repeat (first | (with_reducible exact Below.refl _ _) | (with_reducible refine Below.drew ?_) | (with_reducible refine below_drewN ?_ _) | ((with_reducible refine below_alloc ?_ ?_ _); · (first | exact Nat.le_refl _ | omega | (simp; done) | (simp; omega) | (simp at *; omega))) | ((with_reducible refine below_set ?_ ?_ _); · (first | exact Nat.le_refl _ | omega | (simp; done) | (simp; omega) | (simp at *; omega))) | ((with_reducible refine below_via (by with_reducible assumption) ?_ ?_); · (first | exact Nat.le_refl _ | omega | (simp; done) | (simp; omega) | (simp at *; omega))))))).mono ?_
        rintro e w3 ⟨hb3, pA', pc', gA', gc', rfl, hop, hog, hpc', hgc'⟩
        have hn2 : (st.more p q k).n ≤ 4 := HO.out.n4
        have hm2 : (st.more p q k).m ≤ 4 := HO.out.m4
        generalize hs2 : st.more p q k = s2 at hop hog hpc' hgc' hn2 hm2 ⊢
        have HS2 := Lib.hid hs2
        have HOP := Lib.hid hop
        have HOG := Lib.hid hog
        have hs3 := hb3.size
        have HB3 := Lib.hid (show Below wr.heap.size wr w3 from (by repeat (first | (with_reducible exact Below.refl _ _) | (with_reducible refine Below.drew ?_) | (with_reducible refine below_drewN ?_ _) | ((with_reducible refine below_alloc ?_ ?_ _); · (first | exact Nat.le_refl _ | omega | (simp; done) | (simp; omega) | (simp at *; omega))) | ((with_reducible refine below_set ?_ ?_ _); · (first | exact Nat.le_refl _ | omega | (simp; done) | (simp; omega) | (simp at *; omega))) | ((with_reducible refine below_via (by with_reducible assumption) ?_ ?_); · (first | exact Nat.le_refl _ | omega | (simp; done) | (simp; omega) | (simp at *; omega))))))
        clear hs2 hop hog hb3
        go_wp2_with fail
        refine (opened_any s2 w3.heap.size pA' gA' pc' gc' _ (by omega) (HOP.out.row.below (by repeat (first | (with_reducible exact Below.refl _ _) | (with_reducible refine Below.drew ?_) | (with_reducible refine below_drewN ?_ _) | ((with_reducible refine below_alloc ?_ ?_ _); · (first | exact Nat.le_refl _ | omega | (simp; done) | (simp; omega) | (simp at *; omega))) | ((with_reducible refine below_set ?_ ?_ _); · (first | exact Nat.le_refl _ | omega | (simp; done) | (simp; omega) | (simp at *; omega))) | ((with_reducible refine below_via (by with_reducible assumption) ?_ ?_); · (first | exact Nat.le_refl _ | omega | (simp; done) | (simp; omega) | (simp at *; omega)))))) (HOG.out.row.below (by repeat (first | (with_reducible exact Below.refl _ _) | (with_reducible refine Below.drew ?_) | (with_reducible refine below_drewN ?_ _) | ((with_reducible refine below_alloc ?_ ?_ _); · (first | exact Nat.le_refl _ | omega | (simp; done) | (simp; omega) | (simp at *; omega))) | ((with_reducible refine below_set ?_ ?_ _); · (first | exact Nat.le_refl _ | omega | (simp; done) | (simp; omega) | (simp at *; omega))) | ((with_reducible refine below_via (by with_reducible assumption) ?_ ?_); · (first | exact Nat.le_refl _ | omega | (simp; done) | (simp; omega) | (simp at *; omega)))))) (by omega) (by omega) hpc' hgc').mono ?_
        rintro e w4 ⟨hb4, ⟨hok2, db2, rfl, hD2, hdb2⟩ | ⟨hne2, rfl⟩⟩
        · have HO2 := Lib.hid hok2
          have HD2 := Lib.hid hD2
          have hs4 := hb4.size
          have HB4 := Lib.hid (show Below wr.heap.size wr w4 from HB3.out.trans ((show Below w3.heap.size w3 w4 from (by repeat (first | (with_reducible exact Below.refl _ _) | (with_reducible refine Below.drew ?_) | (with_reducible refine below_drewN ?_ _) | ((with_reducible refine below_alloc ?_ ?_ _); · (first | exact Nat.le_refl _ | omega | (simp; done) | (simp; omega) | (simp at *; omega))) | ((with_reducible refine below_set ?_ ?_ _); · (first | exact Nat.le_refl _ | omega | (simp; done) | (simp; omega) | (simp at *; omega))) | ((with_reducible refine below_via (by with_reducible assumption) ?_ ?_); · (first | exact Nat.le_refl _ | omega | (simp; done) | (simp; omega) | (simp at *; omega)))))).mono (by omega)))
          clear hok2 hD2 hb4
          go_wp2_with fail
          refine (best_any s2 HO2.out db2 _ ((HD2.out.at (by omega)).later (by repeat (first | (with_reducible exact Below.refl _ _) | (with_reducible refine Below.drew ?_) | (with_reducible refine below_drewN ?_ _) | ((with_reducible refine below_alloc ?_ ?_ _); · (first | exact Nat.le_refl _ | omega | (simp; done) | (simp; omega) | (simp at *; omega))) | ((with_reducible refine below_set ?_ ?_ _); · (first | exact Nat.le_refl _ | omega | (simp; done) | (simp; omega) | (simp at *; omega))) | ((with_reducible refine below_via (by with_reducible assumption) ?_ ?_); · (first | exact Nat.le_refl _ | omega | (simp; done) | (simp; omega) | (simp at *; omega))))))).mono ?_
          rintro e w5 ⟨hb5, A, cc, rfl, _, _⟩
          have hs5 := hb5.size
          have HB5 := Lib.hid (show Below wr.heap.size wr w5 from HB4.out.trans ((show Below w4.heap.size w4 w5 from (by repeat (first | (with_reducible exact Below.refl _ _) | (with_reducible refine Below.drew ?_) | (with_reducible refine below_drewN ?_ _) | ((with_reducible refine below_alloc ?_ ?_ _); · (first | exact Nat.le_refl _ | omega | (simp; done) | (simp; omega) | (simp at *; omega))) | ((with_reducible refine below_set ?_ ?_ _); · (first | exact Nat.le_refl _ | omega | (simp; done) | (simp; omega) | (simp at *; omega))) | ((with_reducible refine below_via (by with_reducible assumption) ?_ ?_); · (first | exact Nat.le_refl _ | omega | (simp; done) | (simp; omega) | (simp at *; omega)))))).mono (by omega)))
          have HOWN5 := Lib.hid (owns_later hown.out HB5.out)
          clear hb5
          have e2 : (s2.choose s2.lots.toNat s2.all).2 = s2.top := rfl
          rw [e2]
          go_wp2_with (at_builtin; refine wpList_append_own _ rfl (.tmp 71) (.tmp 73) 38 rfl wq.heap.size 3 i0 (.int .i64 0) 1 8 ints_under hi hz0 hz1 hz2' rfl (by decide) u10 (st.payAll p q k).length (intCells (st.payAll p q k)) rfl (HOWN5.out.alloc _) ⟨w5.heap.size, 0, none⟩ 1 1 [.int .i64 s2.top] rfl rfl ?c1 ?c2 ?c3 ?c4 ?c5 ?_)
          case c1 => exact new_cells (cs := [.int .i64 s2.top])
          case c2 => intro u hu; simp only [List.mem_cons, List.not_mem_nil, or_false] at hu; subst hu; rfl
          case c3 => unfold maxLen; omega
          case c4 => omega
          case c5 => simp; omega
          intro v' w6 hown' hgr _
          have hs6 := hgr.size
          simp only [World.size_alloc] at hs6
          have hlow : ∀ i, i < wq.heap.size → w6.heap[i]? = wq.heap[i]? := fun i hi => by
            have h1 := hgr.block i (by simp; omega) (fun e => by have := (hv1 i e.symm).1; omega)
            exact h1.trans ((Below.heap_alloc _ _ _ (by omega)).trans ((HB5.out.block i (by omega)).trans (hbw.out.block i hi)))
          have HB6 : Hid (Below wq.heap.size wq w6) := Lib.hid ⟨hgr.os.trans (HB5.out.os.trans hbw.out.os), hgr.tape.trans (HB5.out.tape.trans hbw.out.tape), hgr.output.trans (HB5.out.output.trans hbw.out.output), by omega, hlow⟩
          have epa : Hid (st.payAll p q (k + 1) = st.payAll p q k ++ [s2.top]) := Lib.hid (by
            show _ ++ _ = _
            rw [HS2.out, if_pos (St.check_ok.2 HO2.out)])
          have HOWN6 : Hid (w6.ownsRow wq.heap.size 3 1 v' (st.payAll p q (k + 1)).length (intCells (st.payAll p q (k + 1)))) := Lib.hid (by rw [epa.out, intCells_snoc, List.length_append]; exact hown')
          clear hown' hgr
          go_wp2_with fail
          go_roundw
          case rel => exact ⟨k + 1, by omega, by go_num, HOWN6, HB6⟩
          case measure => simp [intOf]; omega
        · have hnb2 : (s2.check == 0) = false := by simpa using hne2
          have HB4 := Lib.hid (show Below wr.heap.size wr w4 from HB3.out.trans ((show Below w3.heap.size w3 w4 from (by repeat (first | (with_reducible exact Below.refl _ _) | (with_reducible refine Below.drew ?_) | (with_reducible refine below_drewN ?_ _) | ((with_reducible refine below_alloc ?_ ?_ _); · (first | exact Nat.le_refl _ | omega | (simp; done) | (simp; omega) | (simp at *; omega))) | ((with_reducible refine below_set ?_ ?_ _); · (first | exact Nat.le_refl _ | omega | (simp; done) | (simp; omega) | (simp at *; omega))) | ((with_reducible refine below_via (by with_reducible assumption) ?_ ?_); · (first | exact Nat.le_refl _ | omega | (simp; done) | (simp; omega) | (simp at *; omega)))))).mono (by omega)))
          have epa : Hid (st.payAll p q (k + 1) = st.payAll p q k) := Lib.hid (by
            show _ ++ _ = _
            rw [HS2.out, if_neg hne2, List.append_nil])
          have HOWN6 : Hid (w4.ownsRow wq.heap.size 3 1 u10 (st.payAll p q (k + 1)).length (intCells (st.payAll p q (k + 1)))) := Lib.hid (by rw [epa.out]; exact owns_later hown.out HB4.out)
          have HB6 : Hid (Below wq.heap.size wq w4) := Lib.hid (hbw.out.trans (HB4.out.mono (by omega)))
          clear hb4 hne2
          go_wp2_with fail
          go_roundw
          case rel => exact ⟨k + 1, by omega, by go_num, HOWN6, HB6⟩
          case measure => simp [intOf]; omega
      · obtain rfl : k = q + 1 := by omega
        have hge : ¬ ((q + 1 : Nat) : Int) < (q : Int) + 1 := by omega
        obtain ⟨A, cc, rfl, hir, hcc⟩ := intRow_of_owns hown.out
        have HIR := Lib.hid hir
        obtain ⟨m, hm⟩ : ∃ m, (st.payAll p q (q + 1)).length = m + 1 := ⟨(st.payAll p q (q + 1)).length - 1, by have := HPOS.out; omega⟩
        have hlen := St.payAll_len st p q (q + 1)
        have HM := Lib.hid hm
        have hz3 := hz2.out.later hbw.out
        have hpx : (fun j => (st.payAll p q (q + 1)).getD j 0) = st.payX p q := rfl
        rw [hpx, hm] at HIR
        clear hir
        rw [hm]
        obtain ⟨⟨a0, a1⟩, f0, f1⟩ := hz3
        have HYR := hyq.out.trans (hbw.out.mono (by omega))
        go_wp2_with (first | (go_at_call 76; refine (Min_any A m cc (st.payX p q) _ (HIR.out) (by omega)).mono ?_; rintro e w' ⟨rfl, rfl⟩) | (go_at_call 77; refine (Max_any A m cc (st.payX p q) _ (HIR.out) (by omega)).mono ?_; rintro e w' ⟨rfl, rfl⟩))
        exact bodyPost_ret (v := spV (minN (st.payX p q) m, maxN (st.payX p q) m, 0)) (by simp [results, Tryz.results46, go_sem, a0, a1]) rfl ⟨by rw [HR.out, HM.out]; rfl, (by repeat (first | (with_reducible exact Below.refl _ _) | (with_reducible refine Below.drew ?_) | (with_reducible refine below_drewN ?_ _) | ((with_reducible refine below_alloc ?_ ?_ _); · (first | exact Nat.le_refl _ | omega | (simp; done) | (simp; omega) | (simp at *; omega))) | ((with_reducible refine below_set ?_ ?_ _); · (first | exact Nat.le_refl _ | omega | (simp; done) | (simp; omega) | (simp at *; omega))) | ((with_reducible refine below_via (by with_reducible assumption) ?_ ?_); · (first | exact Nat.le_refl _ | omega | (simp; done) | (simp; omega) | (simp at *; omega)))))⟩
  · exact absurd (St.check_ok.2 HO.out) hne

/-- lot.Pays -/
theorem Pays_any (st : St) (B : Nat) (pA gA : Option Addr) (pc gc : Nat) (p q : Int) (W : World) (hs : StRow W B st pA pc gA gc) :
    Calls Tryz.prog 46 #[stV pA st.n pc gA st.m gc st.lots, .int .i64 p, .int .i64 q] W fun e W' => e = .returned (spV (st.paysR p q)) ∧ Below W.heap.size W W' := by
  by_cases h0 : st.check ≠ 0 ∨ inB p 0 (st.n - 1) = false
  · exact Pays_no st B pA gA pc gc p q W hs h0
  · simp only [not_or, Bool.not_eq_false, Decidable.not_not] at h0
    obtain ⟨h1, h2⟩ := h0
    have h3 : 0 ≤ p ∧ p ≤ (st.n : Int) - 1 := by simpa [inB] using h2
    obtain ⟨k, rfl⟩ := Int.eq_ofNat_of_zero_le h3.1
    have hk : k < st.n := by omega
    by_cases h4 : inB q 0 ((st.P k).s - (st.P k).o) = false
    · exact Pays_range st B pA gA pc gc k q W hs (St.check_ok.1 h1) hk h4
    · have h5 : 0 ≤ q ∧ q ≤ (st.P k).s - (st.P k).o := by simpa [inB] using h4
      obtain ⟨j, rfl⟩ := Int.eq_ofNat_of_zero_le h5.1
      exact Pays_yes st B pA gA pc gc k j W hs (St.check_ok.1 h1) hk h5.2
end Go.Proofs.YtmbkngfcbgbeiaaGreat
