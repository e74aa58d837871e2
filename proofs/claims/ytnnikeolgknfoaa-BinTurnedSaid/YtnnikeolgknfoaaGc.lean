/- Copies of a row in boxes, and what keeps them; a weighing appended. -/
import Derived.Test.YtnnikeolgknfoaaG3
import Derived.Test.YtnnikeolgknfoaaG0
set_option linter.unusedSimpArgs false
set_option linter.unusedVariables false
namespace Go.Proofs.Ytnnikeolgknfoaa
open Go.RowKit Go.Shelf

/-- a copy of a row, and the blocks in which it lies -/
structure Cp where
  bA : Option Addr
  dA : Option Addr
  vA : Option Addr
  bc : Nat
  dc : Nat
  vc : Nat
  s : Nat
  m : Nat
  e : Nat
abbrev Cp.val (c : Cp) (r : Rw) : Value := rwV c.bA r.n c.bc c.dA r.d c.dc c.vA r.m c.vc
structure CpAt (w : World) (r : Rw) (c : Cp) : Prop where
  b : OwnBn w c.s c.bA r.n r.B
  d : OwnInt w c.s c.dA r.d r.D
  v : w.ownsRow c.m 35 4 (.slice c.vA r.m c.vc) r.m (rowC wgC r.V r.m)
  bl : ∀ a, c.bA = some a → c.s ≤ a.block ∧ a.block < c.m ∧ a.block < c.e
  dl : ∀ a, c.dA = some a → c.s ≤ a.block ∧ a.block < c.m ∧ a.block < c.e
  vl : ∀ g, (Value.slice c.vA r.m c.vc).ownBlock = some g → c.m ≤ g ∧ g < c.e
  bd : ∀ a g, c.bA = some a → c.dA = some g → a.block ≠ g.block
  cap : r.n ≤ c.bc ∧ r.d ≤ c.dc ∧ r.m ≤ c.vc
  sm : c.s ≤ c.m
  me : c.m ≤ c.e
  e : c.e ≤ w.heap.size
theorem OwnBn.keepA {w w' : World} {lo n : Nat} {A : Option Addr} {P : Nat → Bn} (h : OwnBn w lo A n P) (hk : ∀ a, A = some a → w'.heap[a.block]? = w.heap[a.block]?) : OwnBn w' lo A n P := fun k hk' => by
  obtain ⟨b, hA, hl, c0, c1, c2, c3, c4, c5, c6, hf⟩ := h k hk'
  have hs := hk _ hA
  dsimp only at hs
  exact ⟨b, hA, hl, cell_same hs c0, cell_same hs c1, cell_same hs c2, cell_same hs c3, cell_same hs c4, cell_same hs c5, cell_same hs c6, fun i => fro_same hs (hf i)⟩
theorem OwnInt.keepA {w w' : World} {lo n : Nat} {A : Option Addr} {P : Nat → Int} (h : OwnInt w lo A n P) (hk : ∀ a, A = some a → w'.heap[a.block]? = w.heap[a.block]?) : OwnInt w' lo A n P := fun k hk' => by
  obtain ⟨b, hA, hl, c0, hf⟩ := h k hk'
  have hs := hk _ hA
  dsimp only at hs
  exact ⟨b, hA, hl, cell_same hs c0, fun i => fro_same hs (hf i)⟩
theorem CpAt.keep {w w' : World} {r : Rw} {c : Cp} (h : CpAt w r c) (hk : ∀ i, c.s ≤ i → i < c.e → w'.heap[i]? = w.heap[i]?) (hs : w.heap.size ≤ w'.heap.size) : CpAt w' r c :=
  ⟨h.b.keepA (fun a ha => by have := h.bl a ha; exact hk _ this.1 this.2.2), h.d.keepA (fun a ha => by have := h.dl a ha; exact hk _ this.1 this.2.2), owns_sm h.v (fun g h1 h2 => by have := h.vl g h2; have := h.sm; exact hk g (by omega) (by omega)), h.bl, h.dl, h.vl, h.bd, h.cap, h.sm, h.me, Nat.le_trans h.e hs⟩
theorem CpAt.of {w w' : World} {r : Rw} (hn : 1 ≤ r.n) (hd : 1 ≤ r.d) {e : Ending} (h : OwnPost2 r w e w') : ∃ c : Cp, e = .returned (c.val r) ∧ CpAt w' r c ∧ c.s = w.heap.size ∧ c.e = w'.heap.size ∧ Below w.heap.size w w' := by
  obtain ⟨bA, dA, vA, bc, dc, vc, m, rfl, hm, hb, hd', ob, od, ov, hc, hbel, m0, hm1, hm2, hb0, hd0⟩ := h
  have hsz := hbel.size
  refine ⟨⟨bA, dA, vA, bc, dc, vc, w.heap.size, min m w'.heap.size, w'.heap.size⟩, rfl, ⟨ob, od, owns_low (Nat.min_le_left _ _) ov, fun a ha => ?_, fun a ha => ?_, fun g hg => ?_, fun a g ha hg => ?_, hc, by show w.heap.size ≤ min m w'.heap.size; omega, Nat.min_le_right _ _, Nat.le_refl _⟩, rfl, rfl, hbel⟩
  · obtain ⟨b, hA, hl, c0, _⟩ := ob 0 (by omega)
    have h1 := ob.below_of hn a ha
    have h2 := hb a ha
    dsimp only at ha ⊢
    rw [ha] at hA
    injection hA with hA
    rw [hA] at h1 h2 ⊢
    exact ⟨hl, Nat.lt_min.2 ⟨h2, h1⟩, h1⟩
  · obtain ⟨b, hA, hl, c0, _⟩ := od 0 (by omega)
    have h1 := od.below_of hd a ha
    have h2 := hd' a ha
    dsimp only at ha ⊢
    rw [ha] at hA
    injection hA with hA
    rw [hA] at h1 h2 ⊢
    exact ⟨hl, Nat.lt_min.2 ⟨h2, h1⟩, h1⟩
  · have := ov.lt g hg
    exact ⟨Nat.le_trans (Nat.min_le_left _ _) this.1, this.2⟩
  · have h1 := hb0 a ha
    rcases hd0.2 with ⟨e0, _⟩ | ⟨q, cap, cur, e0, hq, _⟩
    · injection e0 with e1 e2 e3
      dsimp only at hg
      rw [hg] at e1
      exact absurd e1 (by simp)
    · injection e0 with e1 e2 e3
      dsimp only at hg
      rw [hg] at e1
      injection e1 with e1
      rw [e1]
      dsimp only
      omega

/-- a copy in its box -/
structure CpBox (w : World) (r : Rw) (c : Cp) (z : Nat) : Prop where
  cp : CpAt w r c
  bx : V3 w z (.slice c.bA r.n c.bc) (.slice c.dA r.d c.dc) (.slice c.vA r.m c.vc)
def own (c : Cp) (z i : Nat) : Prop := i = z ∨ (c.s ≤ i ∧ i < c.e)
theorem CpBox.keep {w w' : World} {r : Rw} {c : Cp} {z : Nat} (h : CpBox w r c z) (hk : ∀ i, own c z i → w'.heap[i]? = w.heap[i]?) (hs : w.heap.size ≤ w'.heap.size) : CpBox w' r c z :=
  ⟨h.cp.keep (fun i h1 h2 => hk i (.inr ⟨h1, h2⟩)) hs, h.bx.same (hk z (.inl rfl))⟩
/-- a row in a box, and where its blocks are -/
def RowF (w : World) (z : Nat) (r : Rw) (S : Nat → Prop) : Prop :=
  ∃ (bA dA vA : Option Addr) (bc dc vc : Nat), RwAt w z r bA bc dA dc vA vc ∧ RwRow w w.heap.size r bA bc dA dc vA vc ∧ S z ∧ ∀ a, (bA = some a ∨ dA = some a ∨ vA = some a) → S a.block
theorem RwRow.keepS {w w' : World} {r : Rw} {bA dA vA : Option Addr} {bc dc vc B : Nat} (h : RwRow w B r bA bc dA dc vA vc) (hk : ∀ a, (bA = some a ∨ dA = some a ∨ vA = some a) → w'.heap[a.block]? = w.heap[a.block]?) {B' : Nat} (hB : B ≤ B') (hs : B' ≤ w'.heap.size) : RwRow w' B' r bA bc dA dc vA vc := by
  refine ⟨hs, fun k hk' => ?_, fun k hk' => ?_, fun k hk' => ?_, h.n1, h.d1, h.m1, h.bc, h.dc, h.vc⟩
  · obtain ⟨b, o, hA, hb, c0, c1, c2, c3, c4, c5, c6⟩ := h.b k hk'
    have hh := hk ⟨b, o, none⟩ (.inl hA)
    exact ⟨b, o, hA, by omega, cell_same hh c0, cell_same hh c1, cell_same hh c2, cell_same hh c3, cell_same hh c4, cell_same hh c5, cell_same hh c6⟩
  · obtain ⟨b, o, hA, hb, c0⟩ := h.d k hk'
    exact ⟨b, o, hA, by omega, cell_same (hk ⟨b, o, none⟩ (.inr (.inl hA))) c0⟩
  · obtain ⟨b, o, hA, hb, c0, c1, c2, c3⟩ := h.v k hk'
    have hh := hk ⟨b, o, none⟩ (.inr (.inr hA))
    exact ⟨b, o, hA, by omega, cell_same hh c0, cell_same hh c1, cell_same hh c2, cell_same hh c3⟩
theorem RowF.keep {w w' : World} {z : Nat} {r : Rw} {S : Nat → Prop} (h : RowF w z r S) (hk : ∀ i, S i → i < w.heap.size → w'.heap[i]? = w.heap[i]?) (hs : w.heap.size ≤ w'.heap.size) : RowF w' z r S := by
  obtain ⟨bA, dA, vA, bc, dc, vc, h1, h2, h3, h4⟩ := h
  refine ⟨bA, dA, vA, bc, dc, vc, h1.same (hk z h3 h1.lt), ?_, h3, h4⟩
  refine ⟨Nat.le_refl _, fun k hk' => ?_, fun k hk' => ?_, fun k hk' => ?_, h2.n1, h2.d1, h2.m1, h2.bc, h2.dc, h2.vc⟩
  · obtain ⟨b, o, hA, hb, c0, c1, c2, c3, c4, c5, c6⟩ := h2.b k hk'
    have hh := hk b (h4 _ (.inl hA)) hb
    exact ⟨b, o, hA, by omega, cell_same hh c0, cell_same hh c1, cell_same hh c2, cell_same hh c3, cell_same hh c4, cell_same hh c5, cell_same hh c6⟩
  · obtain ⟨b, o, hA, hb, c0⟩ := h2.d k hk'
    exact ⟨b, o, hA, by omega, cell_same (hk b (h4 _ (.inr (.inl hA))) hb) c0⟩
  · obtain ⟨b, o, hA, hb, c0, c1, c2, c3⟩ := h2.v k hk'
    have hh := hk b (h4 _ (.inr (.inr hA))) hb
    exact ⟨b, o, hA, by omega, cell_same hh c0, cell_same hh c1, cell_same hh c2, cell_same hh c3⟩
theorem RowF.weak {w : World} {z : Nat} {r : Rw} {S S' : Nat → Prop} (h : RowF w z r S) (hs : ∀ i, S i → S' i) : RowF w z r S' := by
  obtain ⟨bA, dA, vA, bc, dc, vc, h1, h2, h3, h4⟩ := h
  exact ⟨bA, dA, vA, bc, dc, vc, h1, h2, hs _ h3, fun a ha => hs _ (h4 a ha)⟩
/-- a box whose bins and days lie in a copy, with weighings of one's own -/
theorem rowF_of {w : World} {r f : Rw} (hf : f.ok) {c : Cp} {z : Nat} {v : Value} {base : Nat} {S : Nat → Prop} (hn : f.n = r.n) (hd : f.d = r.d) (hB : f.B = r.B) (hD : f.D = r.D) (hc : OwnBn w c.s c.bA r.n r.B ∧ OwnInt w c.s c.dA r.d r.D) (hcap : r.n ≤ c.bc ∧ r.d ≤ c.dc) (hS : ∀ i, own c z i → S i)
    (hbl : ∀ a, c.bA = some a → c.s ≤ a.block ∧ a.block < c.m ∧ a.block < c.e) (hdl : ∀ a, c.dA = some a → c.s ≤ a.block ∧ a.block < c.m ∧ a.block < c.e)
    (hbox : V3 w z (.slice c.bA r.n c.bc) (.slice c.dA r.d c.dc) v) (hv : w.ownsRow base 35 4 v f.m (rowC wgC f.V f.m)) (hSv : ∀ g, v.ownBlock = some g → S g) (hce : c.e ≤ w.heap.size) : RowF w z f (fun i => S i ∧ i < w.heap.size) := by
  have hvlt := hv.lt
  obtain ⟨vA, vc, rfl, ho, hvc⟩ := OwnWg.of hv
  refine ⟨c.bA, c.dA, vA, c.bc, c.dc, vc, ⟨by rw [hn]; exact hbox.c0, by rw [hd]; exact hbox.c1, hbox.c2⟩, ⟨Nat.le_refl _, by rw [hn, hB]; exact hc.1.row, by rw [hd, hD]; exact hc.2.row, ho.row, by have := hf.n6; omega, by have := hf.d7; omega, by have := hf.m10; omega, by omega, by omega, hvc⟩, ⟨hS z (.inl rfl), hbox.lt⟩, ?_⟩
  rintro a (h | h | h)
  · have := hbl a h
    exact ⟨hS _ (.inr ⟨this.1, this.2.2⟩), by omega⟩
  · have := hdl a h
    exact ⟨hS _ (.inr ⟨this.1, this.2.2⟩), by omega⟩
  · suffices hob : (Value.slice vA f.m vc).ownBlock = some a.block from ⟨hSv _ hob, (hvlt _ hob).2⟩
    rw [h]
    rcases hv.2 with ⟨e, _⟩ | ⟨g, cap, cur, e, _⟩
    · injection e with e1 e2 e3
      rw [h] at e1
      exact absurd e1 (by simp)
    · injection e with e1 e2 e3
      rw [h] at e1
      injection e1 with e1
      rw [e1]
      rfl
theorem CpBox.row {w : World} {r : Rw} (hr : r.ok) {c : Cp} {z : Nat} (h : CpBox w r c z) {S : Nat → Prop} (hS : ∀ i, own c z i → S i) : RowF w z r (fun i => S i ∧ i < w.heap.size) :=
  rowF_of (r := r) (f := r) hr rfl rfl rfl rfl ⟨h.cp.b, h.cp.d⟩ ⟨h.cp.cap.1, h.cp.cap.2.1⟩ hS h.cp.bl h.cp.dl h.bx h.cp.v (fun g hg => by have := h.cp.vl g hg; have := h.cp.sm; exact hS g (.inr ⟨by omega, by omega⟩)) h.cp.e
/-- a weighing appended to a copy -/
theorem CpBox.app {w w6 : World} {r : Rw} (hr : r.ok) (hm : r.m < 10) {c : Cp} {z g cap : Nat} {x : Wg} (hx : x.ok r.n) {o : Obj} (h : CpBox w r c z) (hz : z < c.s ∨ c.e ≤ z) {E0 : Nat} (hE : c.e ≤ E0) (hEw : E0 ≤ w.heap.size)
    (hown : w6.ownsRow c.m 35 4 (.slice (some ⟨g, 0, none⟩) (r.m + 1) cap) (r.m + 1) (rowC wgC r.V r.m ++ wgC x)) (hgr : (w.alloc o).grownBy w6 (Value.slice c.vA r.m c.vc).ownBlock) (hat : (Value.slice c.vA r.m c.vc).ownBlock = some g ∨ g = w.heap.size + 1) :
    RowF (w6.setCell ⟨z, 2, none⟩ (.slice (some ⟨g, 0, none⟩) (r.m + 1) cap)) z (r.more x) (fun i => (own c z i ∨ E0 ≤ i) ∧ i < (w6.setCell ⟨z, 2, none⟩ (.slice (some ⟨g, 0, none⟩) (r.m + 1) cap)).heap.size) ∧ (∀ i, i < w.heap.size → ¬ own c z i → (w6.setCell ⟨z, 2, none⟩ (.slice (some ⟨g, 0, none⟩) (r.m + 1) cap)).heap[i]? = w.heap[i]?) ∧ w.heap.size ≤ (w6.setCell ⟨z, 2, none⟩ (.slice (some ⟨g, 0, none⟩) (r.m + 1) cap)).heap.size ∧ ∀ s0, s0 ≤ c.s → s0 ≤ z → s0 ≤ w.heap.size → Below s0 w (w6.setCell ⟨z, 2, none⟩ (.slice (some ⟨g, 0, none⟩) (r.m + 1) cap)) := by
  have hzl := h.bx.lt
  have hs6 := hgr.size
  simp at hs6
  have hvl := fun q (hq : (Value.slice c.vA r.m c.vc).ownBlock = some q) => h.cp.vl q hq
  have hsm := h.cp.sm
  have hk : ∀ i, i < w.heap.size → (Value.slice c.vA r.m c.vc).ownBlock ≠ some i → w6.heap[i]? = w.heap[i]? := fun i hi hne => (hgr.block i (by simp; omega) (fun e => hne e.symm)).trans (Below.heap_alloc _ _ _ hi)
  have hzne : (Value.slice c.vA r.m c.vc).ownBlock ≠ some z := fun e => by have := hvl z e; omega
  have hgz : g ≠ z := fun e => by
    rcases hat with h1 | h1
    · rw [e] at h1; exact hzne h1
    · omega
  have hz6 := hk z hzl hzne
  have hce := h.cp.e
  have hb' : ∀ a, (c.bA = some a ∨ c.dA = some a) → (w6.setCell ⟨z, 2, none⟩ (.slice (some ⟨g, 0, none⟩) (r.m + 1) cap)).heap[a.block]? = w.heap[a.block]? := fun a ha => by
    have hbl : c.s ≤ a.block ∧ a.block < c.m ∧ a.block < c.e := by
      rcases ha with ha | ha
      · exact h.cp.bl a ha
      · exact h.cp.dl a ha
    refine (set_heap _ (by dsimp only; omega)).trans (hk _ (by omega) (fun e => ?_))
    have := hvl _ e
    omega
  refine ⟨?_, fun i hi hno => (set_heap _ (by dsimp only; exact fun e => hno (.inl e))).trans (hk i hi (fun e => by
      have := hvl i e
      exact hno (.inr ⟨by omega, by omega⟩))), by simp [World.setCell]; omega, fun s0 h1 h2 h3 => (Below.grown ((Below.refl _ w).alloc (by omega) _) hgr (by simp; omega) (fun q hq => by have := hvl q hq; omega)).setCell (by dsimp only; omega) _⟩
  refine rowF_of (S := fun i => own c z i ∨ E0 ≤ i) (r := r) (c := c) (v := .slice (some ⟨g, 0, none⟩) (r.m + 1) cap) (base := c.m) (Rw.more_ok hr hm hx) rfl rfl rfl rfl ⟨h.cp.b.keepA (fun a ha => hb' a (.inl ha)), h.cp.d.keepA (fun a ha => hb' a (.inr ha))⟩ ⟨h.cp.cap.1, h.cp.cap.2.1⟩ (fun i hi => .inl hi) h.cp.bl h.cp.dl ((h.bx.same hz6).set2 _) ?_ (fun q hq => ?_) (by simp [World.setCell]; omega)
  · have e : rowC wgC (r.more x).V (r.more x).m = rowC wgC r.V r.m ++ wgC x := by rw [rowC_put]; rfl
    show World.ownsRow _ _ _ _ _ (r.m + 1) _
    rw [e]
    exact owns_sm hown (fun q h1 h2 => set_heap _ (by
      dsimp only
      intro e
      exact hgz ((Option.some.inj h2).trans e)))
  · have : q = g := (Option.some.inj hq).symm
    rw [this]
    rcases hat with h1 | h1
    · have := hvl g h1
      exact .inl (.inr ⟨by omega, by omega⟩)
    · exact .inr (by omega)
theorem CpBox.pull {w w' : World} {r : Rw} {c : Cp} {z s0 qb : Nat} (h : CpBox w r c z) (hg : w.grownBy w' (some qb)) (hs : s0 ≤ c.s ∧ s0 ≤ z) (hq : qb < s0) : CpBox w' r c z := by
  have hz := h.bx.lt
  have he := h.cp.e
  exact h.keep (fun i hi => hg.block i (by rcases hi with h1 | h1 <;> omega) (fun e => by injection e with e; rcases hi with h1 | h1 <;> omega)) hg.size
theorem CpBox.later {w w' : World} {r : Rw} {c : Cp} {z : Nat} (h : CpBox w r c z) (hb : Below w.heap.size w w') : CpBox w' r c z := by
  have hz := h.bx.lt
  have he := h.cp.e
  exact h.keep (fun i hi => hb.block i (by rcases hi with h1 | h1 <;> omega)) hb.size
end Go.Proofs.Ytnnikeolgknfoaa
