/- Ranging over all facts; a new desk. -/
import Derived.Test.YtnnikeolgknfoaaGreatBf
import Derived.Test.YtnnikeolgknfoaaGreatBh
set_option linter.unusedSimpArgs false
set_option linter.unusedVariables false
namespace Go.Proofs.YtnnikeolgknfoaaGreat
open Go.RowKit Go.Shelf

/-- a fact boxed -/
def FcB (w : World) (b : Nat) (x : Fc) : Prop := w.cell? ⟨b, 0, none⟩ = some (.bool x.w) ∧ w.cell? ⟨b, 1, none⟩ = some (.int .i64 x.i) ∧ w.cell? ⟨b, 2, none⟩ = some (.bool x.m)
theorem FcB.same {w w' : World} {b : Nat} {x : Fc} (h : FcB w b x) (hb : w'.heap[b]? = w.heap[b]?) : FcB w' b x := ⟨cell_same hb h.1, cell_same hb h.2.1, cell_same hb h.2.2⟩
theorem FcB.lt {w : World} {b : Nat} {x : Fc} (h : FcB w b x) : b < w.heap.size := World.block_lt_of_cell? w _ h.1
/-- 'for f := range d.facts()', f boxed -/
theorem wp_facts {g : Operand} {ps : Array Tmp} {assign body : Code} {Q : Exit → Act → World → Prop} {a : Act} {w : World} (r : Rw) (hn : r.n ≤ 1000) (hm : r.m ≤ 1000) (xb db : Nat) (bA dA vA : Option Addr) (bc dc vc : Nat)
    (hg : a.eval g = .func (.func 152) #[] #[.pointer (some ⟨xb, 0, none⟩)]) (hps : ps.size = 1)
    (I : List Fc → World → Prop) (Ix : Code → List Fc → World → Prop) (hI : AbBelow w.heap.size I) (hIx : ∀ c, AbBelow w.heap.size (Ix c)) (hK : ∀ pre W, I pre W → FcsAt W xb db r bA bc dA dc vA vc) (h0 : I [] w)
    (fr : Fc → Nat → Act)
    (hassign : ∀ (l : Nat) (pre : List Fc) (x : Fc) (W : World) (K : Act → World → Prop), I pre W → (∀ Bx W', Bx = W.heap.size → Below W.heap.size W W' → FcB W' Bx x → K (fr x Bx) W') →
      assign.wpIn (Fence.wide.inRound l) 0 Tryz.prog (Exit.then K (fun _ _ _ => False)) { tmps := (ps.zip #[fcV x]).foldl (fun t (p, v) => t.setIfInBounds p v) a.tmps, defers := [] } W)
    (hbody : ∀ (l : Nat) (pre : List Fc) (x : Fc) (Bx : Nat) (W : World), I pre W → w.heap.size ≤ Bx → FcB W Bx x → pre ++ [x] <+: r.facts → w.heap.size < W.heap.size → body.wpIn (Fence.wide.inRound l) 0 Tryz.prog (newPost w.heap.size I Ix (pre ++ [x]) W) (fr x Bx) W)
    (hdone : ∀ (D : Nat) (W : World), w.heap.size ≤ D → I r.facts W → W.heap[D]? = some (.deferred (some [])) → Q .normal { a with defers := { target := .collected D, args := #[] } :: a.defers } W)
    (hstop : ∀ (D : Nat) (c : Code) (pre : List Fc) (W : World), w.heap.size ≤ D → pre <+: r.facts → Ix c pre W → W.heap[D]? = some (.deferred (some [])) → c.wp Tryz.prog Q { a with defers := { target := .collected D, args := #[] } :: a.defers } W) :
    (Code.rangeFunc g ps assign body).wp Tryz.prog Q a w :=
  wp_rangeFunc_new (gf := 152) (lb := #[.pointer (some ⟨xb, 0, none⟩)]) hg (enters_of Tryz.func152 (by kernel_rfl) rfl) (facts_seq r hn hm xb db bA dA vA bc dc vc) (fun _ => by rw [hps]; rfl) I Ix hI hIx hK h0
    (fun x a' Wx => ∃ Bx : Nat, w.heap.size ≤ Bx ∧ FcB Wx Bx x ∧ a' = fr x Bx)
    (fun x a' A l r r' hl ⟨Bx, hB, hx, e⟩ => ⟨Bx, hB, hx.same (World.putObj_heap_other (fun e => by subst e; obtain ⟨o, ho, hc⟩ := cells_of_cell hx.1; dsimp only at ho; rw [hl] at ho; cases ho; cases hc)), e⟩)
    (fun l pre x W K hi hlt hk => hassign l pre x W K hi (fun Bx W' hB hb hx => hk _ _ (.below hb) (hI _ _ _ hi (hb.mono (by omega))) ⟨Bx, by omega, hx, rfl⟩))
    (fun l pre x a' W hi ⟨Bx, hB, hx, e⟩ hp hlt => by subst e; exact hbody l pre x Bx W hi hB hx hp hlt) hdone hstop

/-- a new desk's cells -/
def deskL (a b c : Value) : List Value := a :: b :: c :: (List.replicate 49 (.int .i64 0) ++ ((List.replicate 49 [Value.bool false, Value.int .i64 0, Value.bool false]).flatten ++ [.slice none 0 0]))
theorem flat3_len (u v w : Value) : ∀ n, (List.replicate n [u, v, w]).flatten.length = 3 * n
  | 0 => rfl
  | n + 1 => by
    rw [List.replicate_succ, List.flatten_cons, List.length_append, flat3_len u v w n]
    simp
    omega
theorem flat3_get (u v w : Value) : ∀ n k q, k < n → q < 3 → (List.replicate n [u, v, w]).flatten[k * 3 + q]? = [u, v, w][q]?
  | 0, k, q, hk, _ => absurd hk (by omega)
  | n + 1, 0, q, _, hq => by
    rw [List.replicate_succ, List.flatten_cons, Nat.zero_mul, Nat.zero_add, List.getElem?_append_left (by simpa using hq)]
  | n + 1, k + 1, q, hk, hq => by
    rw [List.replicate_succ, List.flatten_cons, List.getElem?_append_right (by simp; omega)]
    rw [show (k + 1) * 3 + q - [u, v, w].length = k * 3 + q by simp; omega]
    exact flat3_get u v w n k q (by omega) hq
theorem deskL_l (a b c : Value) {i : Nat} (hi : i < 49) : (deskL a b c)[3 + i]? = some (.int .i64 0) := by
  rw [Nat.add_comm]
  show (List.replicate 49 (Value.int .i64 0) ++ _)[i]? = _
  rw [List.getElem?_append_left (by rw [List.length_replicate]; exact hi), List.getElem?_replicate, if_pos hi]
theorem deskL_f (a b c : Value) {k q : Nat} (hk : k < 49) (hq : q < 3) : (deskL a b c)[52 + (k * 3 + q)]? = [Value.bool false, Value.int .i64 0, Value.bool false][q]? := by
  rw [show 52 + (k * 3 + q) = (49 + (k * 3 + q)) + 3 by omega]
  show (List.replicate 49 (Value.int .i64 0) ++ _)[49 + (k * 3 + q)]? = _
  rw [List.getElem?_append_right (by simp), List.length_replicate, Nat.add_sub_cancel_left, List.getElem?_append_left (by rw [flat3_len]; omega)]
  exact flat3_get _ _ _ 49 k q hk hq
theorem deskL_r (a b c : Value) : (deskL a b c)[199]? = some (.slice none 0 0) := by rfl
theorem zeroDesk : Tryz.zeroCells154 = (deskL (.slice none 0 0) (.slice none 0 0) (.slice none 0 0)).toArray := by kernel_rfl
theorem DkAt.congr {w : World} {B db : Nat} {r : Rw} {S T : Sk} {bA : Option Addr} {bc : Nat} {dA : Option Addr} {dc : Nat} {vA : Option Addr} {vc : Nat} {v : Value} (h : DkAt w B db r S bA bc dA dc vA vc v) (h1 : ∀ x y, x ≤ r.n → y ≤ r.n → S.L x y = T.L x y) (h2 : ∀ x y, S.F x y = T.F x y) : DkAt w B db r T bA bc dA dc vA vc v :=
  ⟨h.a, fun x y hx hy => by rw [← h1 x y hx hy]; exact h.l x y hx hy, fun x y hx hy => by rw [← h2 x y]; exact h.f x y hx hy, h.rd, h.fz⟩
/-- a desk that is being opened -/
structure OpAt (W w : World) (db pb : Nat) (r : Rw) (S : Sk) (bA : Option Addr) (bc : Nat) (dA : Option Addr) (dc : Nat) (vA : Option Addr) (vc : Nat) (v : Value) : Prop where
  d : DkAt w W.heap.size db r S bA bc dA dc vA vc v
  p : w.cell? ⟨pb, 0, none⟩ = some (.pointer (some ⟨db, 0, none⟩))
  b : Below W.heap.size W w
  h : W.heap.size ≤ db ∧ db < pb
theorem OpAt.later {W w w' : World} {db pb : Nat} {r : Rw} {S : Sk} {bA : Option Addr} {bc : Nat} {dA : Option Addr} {dc : Nat} {vA : Option Addr} {vc : Nat} {v : Value} (h : OpAt W w db pb r S bA bc dA dc vA vc v) (hb : Below w.heap.size w w') : OpAt W w' db pb r S bA bc dA dc vA vc v :=
  ⟨h.d.later hb, Kb hb h.p, h.b.trans (hb.mono h.b.size), h.h⟩
theorem OpAt.lt {W w : World} {db pb : Nat} {r : Rw} {S : Sk} {bA : Option Addr} {bc : Nat} {dA : Option Addr} {dc : Nat} {vA : Option Addr} {vc : Nat} {v : Value} (h : OpAt W w db pb r S bA bc dA dc vA vc v) : pb < w.heap.size := World.block_lt_of_cell? w _ h.p
theorem OpAt.over {W w w' : World} {db pb B : Nat} {r : Rw} {S : Sk} {bA : Option Addr} {bc : Nat} {dA : Option Addr} {dc : Nat} {vA : Option Addr} {vc : Nat} {v : Value} (h : OpAt W w db pb r S bA bc dA dc vA vc v) (hB : pb < B) (hb : Below B w w') : OpAt W w' db pb r S bA bc dA dc vA vc v := by
  have hh := h.h
  have hs := hb.block db (by omega)
  exact ⟨⟨⟨h.d.a.a.same hs, h.d.a.r.later (hb.mono (by omega))⟩, h.d.l.same hs, h.d.f.same hs, cell_same hs h.d.rd, fun i => fro_same hs (h.d.fz i)⟩, cell_same (hb.block pb hB) h.p, h.b.trans (hb.mono (by omega)), h.h⟩
theorem OpAt.setL {W w : World} {db pb : Nat} {r : Rw} {S : Sk} {bA : Option Addr} {bc : Nat} {dA : Option Addr} {dc : Nat} {vA : Option Addr} {vc : Nat} {v : Value} (h : OpAt W w db pb r S bA bc dA dc vA vc v) (h6 : r.n ≤ 6) {a b : Nat} (ha : a ≤ r.n) (hb : b ≤ r.n) (z : Int) : OpAt W (w.setCell ⟨db, 3 + a * 7 + b, none⟩ (.int .i64 z)) db pb r ⟨fun x y => if x = a ∧ y = b then z else S.L x y, S.F⟩ bA bc dA dc vA vc v := by
  have hh := h.h
  exact ⟨h.d.setL hh.1 h6 ha hb z, cell_same (set_heap _ (by dsimp only; omega)) h.p, h.b.setCell hh.1 _, h.h⟩
theorem OpAt.upd {W w : World} {db pb : Nat} {r : Rw} {S : Sk} {bA : Option Addr} {bc : Nat} {dA : Option Addr} {dc : Nat} {vA : Option Addr} {vc : Nat} {v : Value} (h : OpAt W w db pb r S bA bc dA dc vA vc v) (h6 : r.n ≤ 6) {a b : Nat} (ha : a ≤ r.n) (hb : b ≤ r.n) (z : Int) (f : Fc) : OpAt W ((((w.setCell ⟨db, 3 + a * 7 + b, none⟩ (.int .i64 z)).setCell ⟨db, 52 + a * 21 + b * 3, none⟩ (.bool f.w)).setCell ⟨db, 52 + a * 21 + b * 3 + 1, none⟩ (.int .i64 f.i)).setCell ⟨db, 52 + a * 21 + b * 3 + 2, none⟩ (.bool f.m)) db pb r (S.upd a b z f) bA bc dA dc vA vc v := by
  have hh := h.h
  have h1 := h.setL h6 ha hb z
  refine ⟨h1.d.setF hh.1 h6 ha hb f, ?_, ((h1.b.setCell hh.1 _).setCell hh.1 _).setCell hh.1 _, h.h⟩
  exact cell_same ((set_heap _ (by dsimp only; omega)).trans ((set_heap _ (by dsimp only; omega)).trans (set_heap _ (by dsimp only; omega)))) h1.p
theorem OpAt.congr {W w : World} {db pb : Nat} {r : Rw} {S T : Sk} {bA : Option Addr} {bc : Nat} {dA : Option Addr} {dc : Nat} {vA : Option Addr} {vc : Nat} {v : Value} (h : OpAt W w db pb r S bA bc dA dc vA vc v) (h1 : ∀ x y, x ≤ r.n → y ≤ r.n → S.L x y = T.L x y) (h2 : ∀ x y, S.F x y = T.F x y) : OpAt W w db pb r T bA bc dA dc vA vc v := ⟨h.d.congr h1 h2, h.p, h.b, h.h⟩
end Go.Proofs.YtnnikeolgknfoaaGreat
