/- The reference: off, can, ends, size. -/
import Derived.Test.YtegmomappbehcaaS
import Derived.Test.YtegmomappbehcaaWm
set_option linter.unusedSimpArgs false
set_option linter.unusedVariables false
namespace Go.Proofs.Ytegmomappbehcaa
open Go.RowKit Go.Shelf

theorem off_any (n lo hi : Int) (w : World) :
    Calls Try.prog 82 #[.int .i64 n, .int .i64 lo, .int .i64 hi] w fun e w' => e = .returned (.bool (!inB n lo hi)) ∧ w = w' := by
  by_cases h1 : n < lo
  · go_enter Try.func82, Try.ntmps82
    go_wp2
    go_ret
    exact ⟨by simp [inB]; omega, rfl⟩
  · by_cases h2 : hi < n
    · go_enter Try.func82, Try.ntmps82
      go_wp2
      go_ret
      exact ⟨by simp [inB]; omega, rfl⟩
    · go_enter Try.func82, Try.ntmps82
      go_wp2
      go_ret
      exact ⟨by simp [inB]; omega, rfl⟩

theorem off_bel (n lo hi : Int) (w : World) : Calls Try.prog 82 #[.int .i64 n, .int .i64 lo, .int .i64 hi] w fun e w' => e = .returned (.bool (!inB n lo hi)) ∧ Below w.heap.size w w' :=
  (off_any n lo hi w).mono (fun _ _ h => ⟨h.1, h.2 ▸ Below.refl _ _⟩)

set_option maxRecDepth 100000 in
set_option maxHeartbeats 400000 in
theorem can_any (p : Pk) (hp : p.rng) (many foul inside : Int) (hm : 0 ≤ many ∧ many ≤ p.s) (hf : 0 ≤ foul ∧ foul ≤ 6) (W : World) :
    Calls Try.prog 123 #[pkV p.s p.w p.o p.f, .int .i64 many, .int .i64 foul, .int .i64 inside] W fun e W' => e = .returned (.bool (p.can many foul inside)) ∧ Below W.heap.size W W' := by
  unfold Pk.rng at hp
  have ew2 : IntKind.i64.wrap (p.s - many) = p.s - many := IntWalk.i64_in _ (by omega)
  by_cases h1 : 0 ≤ inside
  · by_cases h2 : inside ≤ many
    · have ew : IntKind.i64.wrap (foul - inside) = foul - inside := IntWalk.i64_in _ (by omega)
      by_cases h3 : 0 ≤ foul - inside
      · by_cases h4 : foul - inside ≤ p.s - many
        · have HR : Hid (p.can many foul inside = true) := Lib.hid (Pk.can_iff.2 ⟨h1, h2, h3, h4⟩)
          go_enter Try.func123, Try.ntmps123
          go_wp2_with fail
          go_ret
          exact ⟨by rw [HR.out]; rfl, (by repeat (first | (with_reducible exact Below.refl _ _) | (with_reducible refine Below.drew ?_) | (with_reducible refine below_drewN ?_ _) | ((with_reducible refine below_alloc ?_ ?_ _); · (first | exact Nat.le_refl _ | omega | (simp; done) | (simp; omega) | (simp at *; omega))) | ((with_reducible refine below_set ?_ ?_ _); · (first | exact Nat.le_refl _ | omega | (simp; done) | (simp; omega) | (simp at *; omega))) | ((with_reducible refine below_via (by with_reducible assumption) ?_ ?_); · (first | exact Nat.le_refl _ | omega | (simp; done) | (simp; omega) | (simp at *; omega)))))⟩
        · have HR : Hid (p.can many foul inside = false) := Lib.hid (by rw [Bool.eq_false_iff]; intro h; exact h4 (Pk.can_iff.1 h).2.2.2)
          go_enter Try.func123, Try.ntmps123
          go_wp2_with fail
          go_ret
          exact ⟨by rw [HR.out]; rfl, (by repeat (first | (with_reducible exact Below.refl _ _) | (with_reducible refine Below.drew ?_) | (with_reducible refine below_drewN ?_ _) | ((with_reducible refine below_alloc ?_ ?_ _); · (first | exact Nat.le_refl _ | omega | (simp; done) | (simp; omega) | (simp at *; omega))) | ((with_reducible refine below_set ?_ ?_ _); · (first | exact Nat.le_refl _ | omega | (simp; done) | (simp; omega) | (simp at *; omega))) | ((with_reducible refine below_via (by with_reducible assumption) ?_ ?_); · (first | exact Nat.le_refl _ | omega | (simp; done) | (simp; omega) | (simp at *; omega)))))⟩
      · have HR : Hid (p.can many foul inside = false) := Lib.hid (by rw [Bool.eq_false_iff]; intro h; exact h3 (Pk.can_iff.1 h).2.2.1)
        go_enter Try.func123, Try.ntmps123
        go_wp2_with fail
        go_ret
        exact ⟨by rw [HR.out]; rfl, (by repeat (first | (with_reducible exact Below.refl _ _) | (with_reducible refine Below.drew ?_) | (with_reducible refine below_drewN ?_ _) | ((with_reducible refine below_alloc ?_ ?_ _); · (first | exact Nat.le_refl _ | omega | (simp; done) | (simp; omega) | (simp at *; omega))) | ((with_reducible refine below_set ?_ ?_ _); · (first | exact Nat.le_refl _ | omega | (simp; done) | (simp; omega) | (simp at *; omega))) | ((with_reducible refine below_via (by with_reducible assumption) ?_ ?_); · (first | exact Nat.le_refl _ | omega | (simp; done) | (simp; omega) | (simp at *; omega)))))⟩
    · have HR : Hid (p.can many foul inside = false) := Lib.hid (by rw [Bool.eq_false_iff]; intro h; exact h2 (Pk.can_iff.1 h).2.1)
      go_enter Try.func123, Try.ntmps123
      go_wp2_with fail
      go_ret
      exact ⟨by rw [HR.out]; rfl, (by repeat (first | (with_reducible exact Below.refl _ _) | (with_reducible refine Below.drew ?_) | (with_reducible refine below_drewN ?_ _) | ((with_reducible refine below_alloc ?_ ?_ _); · (first | exact Nat.le_refl _ | omega | (simp; done) | (simp; omega) | (simp at *; omega))) | ((with_reducible refine below_set ?_ ?_ _); · (first | exact Nat.le_refl _ | omega | (simp; done) | (simp; omega) | (simp at *; omega))) | ((with_reducible refine below_via (by with_reducible assumption) ?_ ?_); · (first | exact Nat.le_refl _ | omega | (simp; done) | (simp; omega) | (simp at *; omega)))))⟩
  · have HR : Hid (p.can many foul inside = false) := Lib.hid (by rw [Bool.eq_false_iff]; intro h; exact h1 (Pk.can_iff.1 h).1)
    go_enter Try.func123, Try.ntmps123
    go_wp2_with fail
    go_ret
    exact ⟨by rw [HR.out]; rfl, (by repeat (first | (with_reducible exact Below.refl _ _) | (with_reducible refine Below.drew ?_) | (with_reducible refine below_drewN ?_ _) | ((with_reducible refine below_alloc ?_ ?_ _); · (first | exact Nat.le_refl _ | omega | (simp; done) | (simp; omega) | (simp at *; omega))) | ((with_reducible refine below_set ?_ ?_ _); · (first | exact Nat.le_refl _ | omega | (simp; done) | (simp; omega) | (simp at *; omega))) | ((with_reducible refine below_via (by with_reducible assumption) ?_ ?_); · (first | exact Nat.le_refl _ | omega | (simp; done) | (simp; omega) | (simp at *; omega)))))⟩

theorem N2At.set0 {w : World} {b : Nat} {m n : Int} (h : N2At w b m n) (v : Int) : N2At (w.setCell ⟨b, 0, none⟩ (.int .i64 v)) b v n := by
  obtain ⟨⟨h0, h1⟩, f0, f1⟩ := h
  exact ⟨⟨by simp [go_sem, h0], by simp [go_sem, h1]⟩, fro_set_of _ f0, fro_set_of _ f1⟩
theorem N2At.set1 {w : World} {b : Nat} {m n : Int} (h : N2At w b m n) (v : Int) : N2At (w.setCell ⟨b, 1, none⟩ (.int .i64 v)) b m v := by
  obtain ⟨⟨h0, h1⟩, f0, f1⟩ := h
  exact ⟨⟨by simp [go_sem, h0], by simp [go_sem, h1]⟩, fro_set_of _ f0, fro_set_of _ f1⟩
theorem Z2.set {w : World} {b : Nat} (h : Z2 w b) (p : Addr) (v : Value) (hp : p.block ≠ b) : Z2 (w.setCell p v) b := h.same (Below.heap_setCell _ _ _ _ (Ne.symm hp))
theorem N2At.z {w : World} {b : Nat} (h : N2At w b 0 0) : Z2 w b := h

/-- a row of truth values in memory -/
def BoolRow (w : World) (B : Nat) (A : Option Addr) (n : Nat) (X : Nat → Bool) : Prop :=
  ∀ k, k < n → ∃ b o, A = some ⟨b, o, none⟩ ∧ b < B ∧ w.cell? ⟨b, o + k, none⟩ = some (.bool (X k))
theorem BoolRow.later {w w' : World} {A : Option Addr} {n : Nat} {X : Nat → Bool} (h : BoolRow w w.heap.size A n X) (hb : Below w.heap.size w w') : BoolRow w' w'.heap.size A n X := fun k hk => by
  obtain ⟨b, o, hA, hB, c⟩ := h k hk
  exact ⟨b, o, hA, Nat.lt_of_lt_of_le hB hb.size, (hb.cell (p := ⟨b, _, none⟩) hB).trans c⟩

set_option maxRecDepth 100000 in
set_option maxHeartbeats 1000000 in
theorem rends_any (A : Option Addr) (n c : Nat) (X : Nat → Bool) (W : World) (hA : BoolRow W W.heap.size A n X) (hn : n ≤ 1000) :
    Calls Try.prog 95 #[.slice A n c] W fun e W' => e = .returned (.agg #[.int .i64 (eS n X n).1, .int .i64 (eS n X n).2]) ∧ Below W.heap.size W W' := by
  have HA := Lib.hid hA
  clear hA
  go_enter Try.func95, Try.ntmps95
  go_wp2_with fail
  have z0 : N2At ((W.alloc (.cells #[.int .i64 0, .int .i64 0] 50)).alloc (.cells #[.int .i64 n, .int .i64 (-1)] 50)) (W.heap.size + 1) n (-1) := (by (repeat' refine And.intro ?_ ?_) <;> (repeat (first | (with_reducible assumption) | (simp; done) | (with_reducible refine cell_drew_of ?_) | (with_reducible refine cell_drewN_of ?_) | (with_reducible refine cell_below_of (by with_reducible assumption) ?_) | ((with_reducible refine cell_new_of ?_ ?_) <;> (first | (with_reducible rfl) | (simp; done))) | ((with_reducible refine fro_new_of ?_) <;> (first | (with_reducible rfl) | (simp; done))) | (with_reducible refine cell_alloc_of _ ?_) | (with_reducible refine cell_set_of _ (by (first | exact Nat.le_refl _ | omega | (simp; done) | (simp; omega))) ?_) | (with_reducible refine fro_drew_of ?_) | (with_reducible refine fro_drewN_of ?_) | (with_reducible refine fro_below_of (by with_reducible assumption) (by (first | exact Nat.le_refl _ | omega | (simp; done) | (simp; omega))) ?_) | (with_reducible refine fro_alloc_of _ (by (first | exact Nat.le_refl _ | omega | (simp; done) | (simp; omega))) ?_) | (with_reducible refine fro_set_of _ ?_))))
  have y0 : Z2 ((W.alloc (.cells #[.int .i64 0, .int .i64 0] 50)).alloc (.cells #[.int .i64 n, .int .i64 (-1)] 50)) W.heap.size := (by (repeat' refine And.intro ?_ ?_) <;> (repeat (first | (with_reducible assumption) | (simp; done) | (with_reducible refine cell_drew_of ?_) | (with_reducible refine cell_drewN_of ?_) | (with_reducible refine cell_below_of (by with_reducible assumption) ?_) | ((with_reducible refine cell_new_of ?_ ?_) <;> (first | (with_reducible rfl) | (simp; done))) | ((with_reducible refine fro_new_of ?_) <;> (first | (with_reducible rfl) | (simp; done))) | (with_reducible refine cell_alloc_of _ ?_) | (with_reducible refine cell_set_of _ (by (first | exact Nat.le_refl _ | omega | (simp; done) | (simp; omega))) ?_) | (with_reducible refine fro_drew_of ?_) | (with_reducible refine fro_drewN_of ?_) | (with_reducible refine fro_below_of (by with_reducible assumption) (by (first | exact Nat.le_refl _ | omega | (simp; done) | (simp; omega))) ?_) | (with_reducible refine fro_alloc_of _ (by (first | exact Nat.le_refl _ | omega | (simp; done) | (simp; omega))) ?_) | (with_reducible refine fro_set_of _ ?_))))
  have hb0 := Lib.hid (show Below W.heap.size W ((W.alloc (.cells #[.int .i64 0, .int .i64 0] 50)).alloc (.cells #[.int .i64 n, .int .i64 (-1)] 50)) from (by repeat (first | (with_reducible exact Below.refl _ _) | (with_reducible refine Below.drew ?_) | (with_reducible refine below_drewN ?_ _) | ((with_reducible refine below_alloc ?_ ?_ _); · (first | exact Nat.le_refl _ | omega | (simp; done) | (simp; omega) | (simp at *; omega))) | ((with_reducible refine below_set ?_ ?_ _); · (first | exact Nat.le_refl _ | omega | (simp; done) | (simp; omega) | (simp at *; omega))) | ((with_reducible refine below_via (by with_reducible assumption) ?_ ?_); · (first | exact Nat.le_refl _ | omega | (simp; done) | (simp; omega) | (simp at *; omega))))))
  go_loopw [4] (fun i wr => ∃ k : Nat, k ≤ n ∧ i = .int .i64 k ∧ Hid (N2At wr (W.heap.size + 1) (eS n X k).1 (eS n X k).2) ∧ Hid (Z2 wr W.heap.size) ∧ Hid (Below W.heap.size W wr)) (fun i _ => n - (intOf i).toNat)
  case atStart => exact ⟨0, Nat.zero_le _, rfl, Lib.hid z0, Lib.hid y0, hb0⟩
  case round =>
    obtain ⟨k, hk, rfl, hz, hy, hbw⟩ := hrel
    have bd := eS_bd n X k hk
    by_cases hlt : k < n
    · obtain ⟨b, o, rfl, hbl, c0⟩ := HA.out k hlt
      have c0 := cell_same (hbw.out.block b hbl) c0
      have hk0 : (0 : Int) ≤ (k : Int) := by omega
      have hkn : (k : Int) < (n : Int) := by omega
      obtain ⟨⟨z0, z1⟩, fz0, fz1⟩ := hz.out
      have hzl := World.block_lt_of_cell? wr _ z0
      cases hx : X k with
      | true =>
        rw [hx] at c0
        have hlt1 : (k : Int) < (eS n X k).1 ∨ ¬ (k : Int) < (eS n X k).1 := by omega
        have hes : Hid (eS n X (k + 1) = (if (k : Int) < (eS n X k).1 then (k : Int) else (eS n X k).1, (k : Int))) := Lib.hid (by show (if X k then _ else _) = _; rw [hx]; rfl)
        generalize (eS n X k).1 = lo at *
        generalize (eS n X k).2 = hi at *
        rcases hlt1 with h | h
        · go_wp2_with fail
          go_roundw
          case rel => 
            refine ⟨k + 1, by omega, by go_num, Lib.hid ?_, Lib.hid ?_, Lib.hid ?_⟩
            · rw [hes.out, if_pos h]; exact (hz.out.set1 _).set0 _
            · exact (hy.out.set _ _ (by simp)).set _ _ (by simp)
            · have := hbw.out; exact (by repeat (first | (with_reducible exact Below.refl _ _) | (with_reducible refine Below.drew ?_) | (with_reducible refine below_drewN ?_ _) | ((with_reducible refine below_alloc ?_ ?_ _); · (first | exact Nat.le_refl _ | omega | (simp; done) | (simp; omega) | (simp at *; omega))) | ((with_reducible refine below_set ?_ ?_ _); · (first | exact Nat.le_refl _ | omega | (simp; done) | (simp; omega) | (simp at *; omega))) | ((with_reducible refine below_via (by with_reducible assumption) ?_ ?_); · (first | exact Nat.le_refl _ | omega | (simp; done) | (simp; omega) | (simp at *; omega)))))
          case measure => simp [intOf]; omega
        · go_wp2_with fail
          go_roundw
          case rel => 
            refine ⟨k + 1, by omega, by go_num, Lib.hid ?_, Lib.hid ?_, Lib.hid ?_⟩
            · rw [hes.out, if_neg h]; exact hz.out.set1 _
            · exact hy.out.set _ _ (by simp)
            · have := hbw.out; exact (by repeat (first | (with_reducible exact Below.refl _ _) | (with_reducible refine Below.drew ?_) | (with_reducible refine below_drewN ?_ _) | ((with_reducible refine below_alloc ?_ ?_ _); · (first | exact Nat.le_refl _ | omega | (simp; done) | (simp; omega) | (simp at *; omega))) | ((with_reducible refine below_set ?_ ?_ _); · (first | exact Nat.le_refl _ | omega | (simp; done) | (simp; omega) | (simp at *; omega))) | ((with_reducible refine below_via (by with_reducible assumption) ?_ ?_); · (first | exact Nat.le_refl _ | omega | (simp; done) | (simp; omega) | (simp at *; omega)))))
          case measure => simp [intOf]; omega
      | false =>
        rw [hx] at c0
        have hes : Hid (eS n X (k + 1) = eS n X k) := Lib.hid (by show (if X k then _ else _) = _; rw [hx]; rfl)
        go_wp2_with fail
        go_roundw
        case rel => exact ⟨k + 1, by omega, by go_num, Lib.hid (by rw [hes.out]; exact hz.out), hy, hbw⟩
        case measure => simp [intOf]; omega
    · obtain rfl : k = n := by omega
      have hge : ¬ (k : Int) < (k : Int) := by omega
      obtain ⟨⟨z0, z1⟩, fz0, fz1⟩ := hz.out
      obtain ⟨⟨y0, y1⟩, fy0, fy1⟩ := hy.out
      go_wp2_with fail
      have q := ((show N2At wr W.heap.size 0 0 from hy.out).set0 (eS k X k).1).set1 (eS k X k).2
      have hbo := hbw.out
      have hq := Lib.hid (show Below W.heap.size W ((wr.setCell ⟨W.heap.size, 0, none⟩ (.int .i64 (eS k X k).1)).setCell ⟨W.heap.size, 1, none⟩ (.int .i64 (eS k X k).2)) from (by repeat (first | (with_reducible exact Below.refl _ _) | (with_reducible refine Below.drew ?_) | (with_reducible refine below_drewN ?_ _) | ((with_reducible refine below_alloc ?_ ?_ _); · (first | exact Nat.le_refl _ | omega | (simp; done) | (simp; omega) | (simp at *; omega))) | ((with_reducible refine below_set ?_ ?_ _); · (first | exact Nat.le_refl _ | omega | (simp; done) | (simp; omega) | (simp at *; omega))) | ((with_reducible refine below_via (by with_reducible assumption) ?_ ?_); · (first | exact Nat.le_refl _ | omega | (simp; done) | (simp; omega) | (simp at *; omega))))))
      obtain ⟨⟨q0, q1⟩, _⟩ := q
      exact bodyPost_ret (v := .agg #[.int .i64 (eS k X k).1, .int .i64 (eS k X k).2]) (by simp [results, Try.results95, go_sem, q0, q1]) rfl ⟨rfl, hq.out⟩

end Go.Proofs.Ytegmomappbehcaa
