/- Plain words of package bin: rows, their errors, spans, facts. No program here. -/
import Derived.Test.YtnnikeolgknfoaaGreatBt
set_option linter.unusedSimpArgs false
set_option linter.unusedVariables false
namespace Go.Proofs.YtnnikeolgknfoaaGreat

/-- a row of bins -/
structure Rw where
  n : Nat
  B : Nat → Bn
  d : Nat
  D : Nat → Int
  m : Nat
  V : Nat → Wg
/-- what a bin gets is allowed -/
def Bn.gets (b : Bn) : Bool := allN (fun k => inB (b.lo k) 0 (b.hi k) && decide (b.hi k ≤ 50)) 3
/-- the error of a row -/
def Rw.check (r : Rw) : Int :=
  if ¬ (1 ≤ r.n ∧ r.n ≤ 6) ∨ 7 < r.d ∨ 10 < r.m then 3
  else if allN (fun k => (r.B k).gets && inB (r.B k).s 0 r.d) r.n = false then 4
  else if allN (fun k => inB (r.V k).p 0 3000 && inB (r.V k).e 0 100) r.m = false then 4
  else if allN (fun k => inB (r.D k) 0 2) r.d = false then 2
  else if allN (fun k => inB (r.V k).f 0 ((r.n : Int) - 1) && inB (r.V k).t 0 ((r.n : Int) - 1)) r.m = false then 2
  else if allN (fun k => decide ((r.V k).f ≤ (r.V k).t)) r.m = false then 6
  else 0
structure Bn.ok (b : Bn) (d : Nat) : Prop where
  g : ∀ k, k < 3 → 0 ≤ b.lo k ∧ b.lo k ≤ b.hi k ∧ b.hi k ≤ 50
  s : 0 ≤ b.s ∧ b.s ≤ d
structure Wg.ok (v : Wg) (n : Nat) : Prop where
  p : 0 ≤ v.p ∧ v.p ≤ 3000
  e : 0 ≤ v.e ∧ v.e ≤ 100
  f : 0 ≤ v.f
  ft : v.f ≤ v.t
  t : v.t < n
/-- a right row -/
structure Rw.ok (r : Rw) : Prop where
  n1 : 1 ≤ r.n
  n6 : r.n ≤ 6
  d7 : r.d ≤ 7
  m10 : r.m ≤ 10
  b : ∀ k, k < r.n → (r.B k).ok r.d
  v : ∀ k, k < r.m → (r.V k).ok r.n
  k : ∀ k, k < r.d → 0 ≤ r.D k ∧ r.D k ≤ 2
theorem Bn.gets_iff {b : Bn} : b.gets = true ↔ ∀ k, k < 3 → 0 ≤ b.lo k ∧ b.lo k ≤ b.hi k ∧ b.hi k ≤ 50 := by
  unfold Bn.gets
  rw [allN_iff]
  constructor
  · intro h k hk
    have := h k hk
    simp only [inB, Bool.and_eq_true, decide_eq_true_iff] at this
    omega
  · intro h k hk
    have := h k hk
    simp only [inB, Bool.and_eq_true, decide_eq_true_iff]
    omega
theorem Rw.check_ok {r : Rw} : r.check = 0 ↔ r.ok := by
  unfold Rw.check
  constructor
  · intro h
    split at h
    · cases h
    rename_i h0
    split at h
    · cases h
    rename_i h1
    split at h
    · cases h
    rename_i h2
    split at h
    · cases h
    rename_i h3
    split at h
    · cases h
    rename_i h4
    split at h
    · cases h
    rename_i h5
    rw [Bool.not_eq_false, allN_iff] at h1 h2 h3 h4 h5
    simp only [inB, Bool.and_eq_true, decide_eq_true_iff] at h1 h2 h3 h4 h5
    refine ⟨by omega, by omega, by omega, by omega, fun k hk => ⟨Bn.gets_iff.1 (h1 k hk).1, (h1 k hk).2⟩, fun k hk => ?_, h3⟩
    have a := h2 k hk
    have b := h4 k hk
    have c := h5 k hk
    exact ⟨a.1, a.2, by omega, c, by omega⟩
  · intro h
    have h0 := h.n1
    have h1 := h.n6
    have h2 := h.d7
    have h3 := h.m10
    rw [if_neg (by omega)]
    have e1 : allN (fun k => (r.B k).gets && inB (r.B k).s 0 r.d) r.n = true := allN_iff.2 (fun k hk => by
      have a := h.b k hk
      simp [inB, Bn.gets_iff.2 a.g, a.s.1, a.s.2])
    have e2 : allN (fun k => inB (r.V k).p 0 3000 && inB (r.V k).e 0 100) r.m = true := allN_iff.2 (fun k hk => by
      have a := h.v k hk
      have b := a.p
      have c := a.e
      simp only [inB, Bool.and_eq_true, decide_eq_true_iff]
      omega)
    have e3 : allN (fun k => inB (r.D k) 0 2) r.d = true := allN_iff.2 (fun k hk => by
      have a := h.k k hk
      simp only [inB, Bool.and_eq_true, decide_eq_true_iff]
      omega)
    have e4 : allN (fun k => inB (r.V k).f 0 ((r.n : Int) - 1) && inB (r.V k).t 0 ((r.n : Int) - 1)) r.m = true := allN_iff.2 (fun k hk => by
      have a := h.v k hk
      have b := a.f
      have c := a.ft
      have d := a.t
      simp only [inB, Bool.and_eq_true, decide_eq_true_iff]
      omega)
    have e5 : allN (fun k => decide ((r.V k).f ≤ (r.V k).t)) r.m = true := allN_iff.2 (fun k hk => by
      have a := (h.v k hk).ft
      simpa using a)
    rw [e1, if_neg (by decide), e2, if_neg (by decide), e3, if_neg (by decide), e4, if_neg (by decide), e5, if_neg (by decide)]
theorem Rw.check_bd (r : Rw) : 0 ≤ r.check ∧ r.check ≤ 6 := by
  unfold Rw.check
  repeat (split; · decide)
  decide

/-- the span of a bin on some days -/
def Bn.tot (b : Bn) (e : Nat → Int) (D : Nat → Int) (k : Nat) : Int := sumN (fun j => e (D (b.s.toNat + j)).toNat) k
def Rw.sp (r : Rw) (i : Nat) : Sp := ⟨(r.B i).tot (r.B i).lo r.D (r.d - (r.B i).s.toNat), (r.B i).tot (r.B i).hi r.D (r.d - (r.B i).s.toNat)⟩
theorem Rw.tot_bd {r : Rw} (hr : r.ok) {i : Nat} (hi : i < r.n) (k : Nat) (hk : (r.B i).s.toNat + k ≤ r.d) : (0 ≤ (r.B i).tot (r.B i).lo r.D k ∧ (r.B i).tot (r.B i).lo r.D k ≤ 50 * (k : Int)) ∧ (0 ≤ (r.B i).tot (r.B i).hi r.D k ∧ (r.B i).tot (r.B i).hi r.D k ≤ 50 * (k : Int)) ∧ (r.B i).tot (r.B i).lo r.D k ≤ (r.B i).tot (r.B i).hi r.D k := by
  have hb := hr.b i hi
  have hg : ∀ j, j < k → (r.D ((r.B i).s.toNat + j)).toNat < 3 := fun j hj => by
    have := hr.k ((r.B i).s.toNat + j) (by omega)
    omega
  refine ⟨sumN_bd2 _ k 50 (fun j hj => ?_), sumN_bd2 _ k 50 (fun j hj => ?_), sumN_le (fun j hj => ?_)⟩
  · have := hb.g _ (hg j hj)
    omega
  · have := hb.g _ (hg j hj)
    omega
  · exact (hb.g _ (hg j hj)).2.1
theorem Rw.sp_bd {r : Rw} (hr : r.ok) {i : Nat} (hi : i < r.n) : 0 ≤ (r.sp i).a ∧ (r.sp i).a ≤ (r.sp i).b ∧ (r.sp i).b ≤ 350 := by
  have hb := (hr.b i hi).s
  have h7 := hr.d7
  obtain ⟨h1, h2, h3⟩ := Rw.tot_bd hr hi (r.d - (r.B i).s.toNat) (by omega)
  exact ⟨h1.1, h3, by have := h2.2; show (r.B i).tot (r.B i).hi r.D (r.d - (r.B i).s.toNat) ≤ 350; omega⟩

/-- a fact is one of the row's -/
def Rw.has (r : Rw) (f : Fc) : Prop := 0 ≤ f.i ∧ if f.w then f.i < r.m else f.i < r.n
/-- from where to where it leads, and its number -/
def Rw.lo (r : Rw) (f : Fc) : Int := if f.w then (r.V f.i.toNat).p - (r.V f.i.toNat).e else (r.sp f.i.toNat).a
def Rw.hi (r : Rw) (f : Fc) : Int := if f.w then (r.V f.i.toNat).p + (r.V f.i.toNat).e else (r.sp f.i.toNat).b
def Rw.fa (r : Rw) (f : Fc) : Int := if f.w then (r.V f.i.toNat).f else f.i
def Rw.fb (r : Rw) (f : Fc) : Int := (if f.w then (r.V f.i.toNat).t else f.i) + 1
def Rw.from_ (r : Rw) (f : Fc) : Int := if f.m then r.fa f else r.fb f
def Rw.to_ (r : Rw) (f : Fc) : Int := if f.m then r.fb f else r.fa f
def Rw.num (r : Rw) (f : Fc) : Int := if f.m then r.hi f else - r.lo f
theorem Rw.f_bd {r : Rw} (hr : r.ok) {f : Fc} (hf : r.has f) : (0 ≤ r.fa f ∧ r.fa f < r.fb f ∧ r.fb f ≤ r.n) ∧ (-100 ≤ r.lo f ∧ r.lo f ≤ r.hi f ∧ r.hi f ≤ 3100) := by
  unfold Rw.has at hf
  unfold Rw.fa Rw.fb Rw.lo Rw.hi
  cases h : f.w with
  | true =>
    simp only [h, if_true] at hf ⊢
    have hv := hr.v f.i.toNat (by omega)
    have h1 := hv.p
    have h2 := hv.e
    have h3 := hv.f
    have h4 := hv.ft
    have h5 := hv.t
    omega
  | false =>
    simp only [h, Bool.false_eq_true, if_false] at hf ⊢
    have hi : f.i.toNat < r.n := by omega
    have h1 := Rw.sp_bd hr hi
    omega
theorem Rw.lead_bd {r : Rw} (hr : r.ok) {f : Fc} (hf : r.has f) : (0 ≤ r.from_ f ∧ r.from_ f ≤ r.n) ∧ (0 ≤ r.to_ f ∧ r.to_ f ≤ r.n) ∧ r.from_ f ≠ r.to_ f ∧ -3100 ≤ r.num f ∧ r.num f ≤ 3100 := by
  have h := Rw.f_bd hr hf
  unfold Rw.from_ Rw.to_ Rw.num
  cases f.m <;> simp <;> omega
/-- all facts of a row, in their order -/
def factsM (r : Rw) (m : Bool) : List Fc := (List.range r.n).map (fun i => ⟨false, (i : Int), m⟩) ++ (List.range r.m).map (fun i => ⟨true, (i : Int), m⟩)
def Rw.facts (r : Rw) : List Fc := factsM r true ++ factsM r false
theorem mem_factsM {r : Rw} {m : Bool} {f : Fc} : f ∈ factsM r m ↔ r.has f ∧ f.m = m := by
  unfold factsM Rw.has
  simp only [List.mem_append, List.mem_map, List.mem_range]
  constructor
  · rintro (⟨i, hi, rfl⟩ | ⟨i, hi, rfl⟩)
    · simp; omega
    · simp; omega
  · rintro ⟨⟨h0, h1⟩, rfl⟩
    obtain ⟨w, i, m⟩ := f
    cases w with
    | false =>
      simp only [Bool.false_eq_true, if_false] at h0 h1
      exact .inl ⟨i.toNat, by omega, by simp; omega⟩
    | true =>
      simp only [if_true] at h0 h1
      exact .inr ⟨i.toNat, by omega, by simp; omega⟩
theorem mem_facts {r : Rw} {f : Fc} : f ∈ r.facts ↔ r.has f := by
  unfold Rw.facts
  rw [List.mem_append, mem_factsM, mem_factsM]
  constructor
  · rintro (h | h) <;> exact h.1
  · intro h
    cases hm : f.m with
    | true => exact .inl ⟨h, rfl⟩
    | false => exact .inr ⟨h, rfl⟩
end Go.Proofs.YtnnikeolgknfoaaGreat
