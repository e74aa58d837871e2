/- Plain laws of BinTurned: a row from its other end. No program here. -/
import Derived.Test.YtnnikeolgknfoaaI1
import Derived.Test.YtnnikeolgknfoaaBs
import Derived.Test.YtnnikeolgknfoaaC5
set_option linter.unusedSimpArgs false
set_option linter.unusedVariables false
namespace Go.Proofs.Ytnnikeolgknfoaa

def Wg.mir (n : Nat) (x : Wg) : Wg := ⟨(n : Int) - 1 - x.t, (n : Int) - 1 - x.f, x.p, x.e⟩
def Rw.mir (r : Rw) : Rw := { r with B := fun i => r.B (r.n - 1 - i), V := fun i => (r.V i).mir r.n }
theorem Rw.mir_ok {r : Rw} (hr : r.ok) : r.mir.ok :=
  ⟨hr.n1, hr.n6, hr.d7, hr.m10, fun k hk => hr.b _ (by have : k < r.n := hk; omega), fun k hk => by
    have h := hr.v k hk
    have h1 := h.f
    have h2 := h.ft
    have h3 := h.t
    exact ⟨h.p, h.e, by show 0 ≤ (r.n : Int) - 1 - (r.V k).t; omega, by show (r.n : Int) - 1 - (r.V k).t ≤ (r.n : Int) - 1 - (r.V k).f; omega, by show (r.n : Int) - 1 - (r.V k).f < (r.n : Int); omega⟩, hr.k⟩
/-- contents from the other end -/
def turn (n : Nat) (X : Nat → Int) : Nat → Int := fun i => X (n - 1 - i)
theorem pre_turn (n : Nat) (X : Nat → Int) : ∀ p, p ≤ n → pre (turn n X) p = pre X n - pre X (n - p)
  | 0, _ => by simp [pre, sumN]
  | p + 1, hp => by
    have ih := pre_turn n X p (by omega)
    have e1 : pre (turn n X) (p + 1) = pre (turn n X) p + X (n - 1 - p) := rfl
    have e2 : pre X (n - p) = pre X (n - (p + 1)) + X (n - (p + 1)) := by
      have : n - p = (n - (p + 1)) + 1 := by omega
      rw [this]
      rfl
    rw [e1, ih, e2, show n - 1 - p = n - (p + 1) by omega]
    omega
theorem Rw.mir_fits {r : Rw} (hr : r.ok) {X : Nat → Int} (hX : r.fits X) : r.mir.fits (turn r.n X) :=
  Rw.fits_of (fun i hi => Rw.fits_sp hr hX (show r.n - 1 - i < r.n by have : i < r.n := hi; omega)) (fun i hi => by
    have hv := hr.v i hi
    have h1 := hv.f
    have h2 := hv.ft
    have h3 := hv.t
    have h := Rw.fits_wg hr hX hi
    show (r.V i).p - (r.V i).e ≤ pre (turn r.n X) (((r.n : Int) - 1 - (r.V i).f).toNat + 1) - pre (turn r.n X) ((r.n : Int) - 1 - (r.V i).t).toNat ∧ pre (turn r.n X) (((r.n : Int) - 1 - (r.V i).f).toNat + 1) - pre (turn r.n X) ((r.n : Int) - 1 - (r.V i).t).toNat ≤ (r.V i).p + (r.V i).e
    rw [pre_turn _ _ _ (by omega), pre_turn _ _ _ (by omega), show r.n - (((r.n : Int) - 1 - (r.V i).f).toNat + 1) = (r.V i).f.toNat by omega, show r.n - ((r.n : Int) - 1 - (r.V i).t).toNat = (r.V i).t.toNat + 1 by omega]
    omega) (fun i hi => Int.le_trans ((Rw.mir_ok hr).v i hi).f ((Rw.mir_ok hr).v i hi).ft)
theorem Rw.mir_back {r : Rw} (hr : r.ok) {Y : Nat → Int} (hY : r.mir.fits Y) : r.fits (turn r.n Y) :=
  Rw.fits_of (fun i hi => by
    have h := Rw.fits_sp (Rw.mir_ok hr) hY (i := r.n - 1 - i) (show r.n - 1 - i < r.n by omega)
    have e : r.mir.sp (r.n - 1 - i) = r.sp i := by
      show r.sp (r.n - 1 - (r.n - 1 - i)) = r.sp i
      rw [show r.n - 1 - (r.n - 1 - i) = i by omega]
    rw [e] at h
    exact h) (fun i hi => by
    have hv := hr.v i hi
    have h1 := hv.f
    have h2 := hv.ft
    have h3 := hv.t
    have h : (r.V i).p - (r.V i).e ≤ pre Y (((r.n : Int) - 1 - (r.V i).f).toNat + 1) - pre Y ((r.n : Int) - 1 - (r.V i).t).toNat ∧ pre Y (((r.n : Int) - 1 - (r.V i).f).toNat + 1) - pre Y ((r.n : Int) - 1 - (r.V i).t).toNat ≤ (r.V i).p + (r.V i).e := Rw.fits_wg (Rw.mir_ok hr) hY (i := i) hi
    rw [pre_turn _ _ _ (by omega), pre_turn _ _ _ (by omega)]
    rw [show ((r.n : Int) - 1 - (r.V i).f).toNat + 1 = r.n - (r.V i).f.toNat by omega, show ((r.n : Int) - 1 - (r.V i).t).toNat = r.n - ((r.V i).t.toNat + 1) by omega] at h
    omega) (fun i hi => Int.le_trans (hr.v i hi).f (hr.v i hi).ft)
theorem Rw.round_iff {r : Rw} (hr : r.ok) : r.round = [] ↔ ∃ X, r.fits X :=
  ⟨fun h => ⟨_, (Rw.fin_nil hr h).fits_from hr (s := 0) (by omega)⟩, fun ⟨X, hX⟩ => Rw.fits_round hr hX⟩
theorem Rw.mir_round {r : Rw} (hr : r.ok) : r.mir.round = [] ↔ r.round = [] := by
  rw [Rw.round_iff hr, Rw.round_iff (Rw.mir_ok hr)]
  exact ⟨fun ⟨Y, hY⟩ => ⟨_, Rw.mir_back hr hY⟩, fun ⟨X, hX⟩ => ⟨_, Rw.mir_fits hr hX⟩⟩
theorem Rw.mir_L {r : Rw} (hr : r.ok) {L L' : Nat → Nat → Int} {F F' : Nat → Nat → Fc} (h : Fin r L F) (h' : Fin r.mir L' F') {a b : Nat} (ha : a ≤ r.n) (hb : b ≤ r.n) : L' a b = L (r.n - b) (r.n - a) := by
  have hm := Rw.mir_ok hr
  have h1 := h.bound (Rw.mir_back hr (h'.fits_from hm (s := a) ha)) (a := r.n - b) (b := r.n - a) (by omega) (by omega)
  rw [pre_turn _ _ _ (by omega), pre_turn _ _ _ (by omega), pre_by, pre_by, pre_by, show r.n - (r.n - a) = a by omega, show r.n - (r.n - b) = b by omega, h'.z a ha] at h1
  have h2 := h'.bound (Rw.mir_fits hr (h.fits_from hr (s := r.n - b) (by omega))) (a := a) (b := b) ha hb
  rw [pre_turn _ _ _ (by omega), pre_turn _ _ _ (by omega), pre_by, pre_by, pre_by, h.z (r.n - b) (by omega)] at h2
  omega
theorem Rw.ask_seven {r : Rw} (hr : r.ok) {a b : Nat} (hab : a ≤ b) (hb : b < r.n) (h : r.round ≠ []) : r.askErr a b = 7 := by
  rcases Rw.ask_two hr hab hb with ⟨h1, _⟩ | h1
  · exact absurd h1 h
  · exact h1
theorem Rw.mir_ask {r : Rw} (hr : r.ok) {a b : Nat} (hab : a ≤ b) (hb : b < r.n) : r.mir.askErr ((r.n - 1 - b : Nat) : Int) ((r.n - 1 - a : Nat) : Int) = r.askErr a b ∧ r.mir.sumS ((r.n - 1 - b : Nat) : Int) ((r.n - 1 - a : Nat) : Int) = r.sumS a b := by
  have hm := Rw.mir_ok hr
  have hab' : r.n - 1 - b ≤ r.n - 1 - a := by omega
  have hb' : r.n - 1 - a < r.mir.n := by show r.n - 1 - a < r.n; omega
  by_cases h : r.round = []
  · have h' := (Rw.mir_round hr).2 h
    have e1 := Rw.ask_zero hr h hab hb
    have e2 := Rw.ask_zero hm h' hab' hb'
    refine ⟨e2.trans e1.symm, ?_⟩
    have hf := Rw.fin_nil hr h
    have hf' := Rw.fin_nil hm h'
    unfold Rw.sumS
    rw [if_pos e1, if_pos e2, Int.toNat_natCast, Int.toNat_natCast, Int.toNat_natCast, Int.toNat_natCast]
    unfold Rw.span
    rw [Rw.mir_L hr hf hf' (by omega) (by omega), Rw.mir_L hr hf hf' (by omega) (by omega), show r.n - (r.n - 1 - b) = b + 1 by omega, show r.n - (r.n - 1 - a + 1) = a by omega]
  · have h' : r.mir.round ≠ [] := fun e => h ((Rw.mir_round hr).1 e)
    have e1 := Rw.ask_seven hr hab hb h
    have e2 := Rw.ask_seven hm hab' hb' h'
    refine ⟨e2.trans e1.symm, ?_⟩
    unfold Rw.sumS
    rw [if_neg (by rw [e2]; decide), if_neg (by rw [e1]; decide)]
/-! ### clashes -/
theorem Rw.torn_iff {r : Rw} (hr : r.ok) : r.torn = true ↔ ¬ ∃ X, r.fits X := by
  rw [← Rw.round_iff hr]
  unfold Rw.torn Rw.fitErr
  rw [if_neg (by rw [Rw.check_ok.2 hr]; decide)]
  by_cases h : r.round = []
  · rw [if_pos (by rw [h]; rfl)]
    simp [h]
  · rw [if_neg (fun e => h (List.length_eq_zero_iff.1 e))]
    simp [h]
theorem torn_same {r r' : Rw} (hr : r.ok) (hr' : r'.ok) (h : (∃ X, r.fits X) ↔ ∃ X, r'.fits X) : r.torn = r'.torn := by
  rw [Bool.eq_iff_iff, Rw.torn_iff hr, Rw.torn_iff hr', h]
theorem Wg.mir_inj {n : Nat} {x y : Wg} : x.mir n = y.mir n ↔ x = y := by
  constructor
  · intro h
    have h1 := congrArg Wg.f h
    have h2 := congrArg Wg.t h
    have h3 := congrArg Wg.p h
    have h4 := congrArg Wg.e h
    unfold Wg.mir at h1 h2 h3 h4
    dsimp only at h1 h2 h3 h4
    cases x
    cases y
    dsimp only at h1 h2 h3 h4
    subst h3 h4
    congr 1 <;> omega
  · intro h; rw [h]
theorem twk_map {n : Nat} {l : List Wg} {x : Wg} : ∀ k, k ≤ l.length → twk (l.map (Wg.mir n)) (x.mir n) k = twk l x k
  | 0, _ => rfl
  | k + 1, hk => by
    unfold twk
    rw [twk_map k (by omega)]
    have e : (l.map (Wg.mir n)).getD k wg0 = (l.getD k wg0).mir n := by
      rw [List.getD_eq_getElem?_getD, List.getD_eq_getElem?_getD, List.getElem?_map, List.getElem?_eq_getElem (show k < l.length by omega)]
      rfl
    rw [e]
    congr 1
    rw [Bool.eq_iff_iff, decide_eq_true_iff, decide_eq_true_iff, Wg.mir_inj]
theorem wthL_map {n : Nat} {V : Nat → Wg} {out : Nat → Bool} : ∀ k, wthL (fun i => (V i).mir n) out k = (wthL V out k).map (Wg.mir n)
  | 0 => rfl
  | k + 1 => by
    unfold wthL
    rw [wthL_map k, List.length_map, twk_map _ (Nat.le_refl _)]
    split <;> simp
theorem Rw.mir_wo {r : Rw} (hr : r.ok) (out : Nat → Bool) : (r.mir.wo out).torn = (r.wo out).torn := by
  have hl := wthL_map (n := r.n) (V := r.V) (out := out) r.m
  have hm : (r.mir.wo out).m = (r.wo out).mir.m := by
    show (wthL (fun i => (r.V i).mir r.n) out r.m).length = (wthL r.V out r.m).length
    rw [hl, List.length_map]
  have hV : ∀ k, k < (r.wo out).m → (r.mir.wo out).V k = (r.wo out).mir.V k := fun k hk => by
    have hk' : k < (wthL r.V out r.m).length := hk
    show (wthL (fun i => (r.V i).mir r.n) out r.m).getD k wg0 = ((wthL r.V out r.m).getD k wg0).mir r.n
    rw [hl, List.getD_eq_getElem?_getD, List.getD_eq_getElem?_getD, List.getElem?_map, List.getElem?_eq_getElem hk']
    rfl
  have s1 : (r.mir.wo out).sub (r.wo out).mir := ⟨rfl, fun _ _ => rfl, fun i hi => ⟨i, by rw [← hm]; exact hi, by rw [hV i (by rw [hm] at hi; exact hi)]; exact ⟨rfl, rfl, Int.le_refl _, Int.le_refl _⟩⟩⟩
  have s2 : (r.wo out).mir.sub (r.mir.wo out) := ⟨rfl, fun _ _ => rfl, fun i hi => ⟨i, by rw [hm]; exact hi, by rw [hV i hi]; exact ⟨rfl, rfl, Int.le_refl _, Int.le_refl _⟩⟩⟩
  have o1 := Rw.wo_ok hr out
  have o2 := Rw.wo_ok (Rw.mir_ok hr) out
  have o3 := Rw.mir_ok o1
  refine torn_same o2 o1 ⟨fun ⟨Y, hY⟩ => ⟨_, Rw.mir_back o1 (s2.fits o3 o2 hY)⟩, fun ⟨X, hX⟩ => ⟨_, s1.fits o2 o3 (Rw.mir_fits o1 hX)⟩⟩
theorem Rw.mir_torn {r : Rw} (hr : r.ok) : r.mir.torn = r.torn :=
  torn_same (Rw.mir_ok hr) hr ⟨fun ⟨Y, hY⟩ => ⟨_, Rw.mir_back hr hY⟩, fun ⟨X, hX⟩ => ⟨_, Rw.mir_fits hr hX⟩⟩
theorem Rw.mir_clN {r : Rw} (hr : r.ok) : ∀ k, r.mir.clN k = r.clN k
  | 0 => rfl
  | k + 1 => by
    unfold Rw.clN
    rw [Rw.mir_clN hr k, Rw.mir_wo hr]
theorem Rw.mir_clash {r : Rw} (hr : r.ok) : r.mir.clashErr = r.clashErr ∧ r.mir.clashL = r.clashL := by
  constructor
  · unfold Rw.clashErr
    rw [Rw.mir_torn hr, Rw.check_ok.2 hr, Rw.check_ok.2 (Rw.mir_ok hr)]
  · exact congrArg Prod.snd (Rw.mir_clN hr r.m)
theorem Rw.mir_fwN {r : Rw} (hr : r.ok) : ∀ s, r.mir.fwN s = r.fwN s
  | 0 => rfl
  | s + 1 => by
    unfold Rw.fwN
    rw [Rw.mir_fwN hr s, Rw.mir_wo hr]
    rfl
theorem Rw.mir_few {r : Rw} (hr : r.ok) : r.mir.fewL = r.fewL := by
  unfold Rw.fewL
  exact congrArg (fun o => Option.getD o []) (Rw.mir_fwN hr (2 ^ r.m))
/-! ### the least width -/
theorem widthN_sum {L : Nat → Nat → Int} {f t : Nat} {p : Int} : ∀ k, widthN L f t p k = pre (fun k => nearN L f t p k (k + 1) + nearN L f t p (k + 1) k) k
  | 0 => rfl
  | k + 1 => by
    unfold widthN
    rw [widthN_sum k]
    show _ = pre (fun k => nearN L f t p k (k + 1) + nearN L f t p (k + 1) k) k + (nearN L f t p k (k + 1) + nearN L f t p (k + 1) k)
    omega
theorem mir_near {n : Nat} {L L' : Nat → Nat → Int} (h : ∀ a b, a ≤ n → b ≤ n → L' a b = L (n - b) (n - a)) {a b x y : Nat} (hab : a ≤ b) (hb : b < n) (hx : x ≤ n) (hy : y ≤ n) (p : Int) : nearN L' (n - 1 - b) (n - 1 - a) p x y = nearN L a b p (n - y) (n - x) := by
  unfold nearN
  rw [h x y hx hy, h x (n - 1 - b) hx (by omega), h (n - 1 - a + 1) y (by omega) hy, h x (n - 1 - a + 1) hx (by omega), h (n - 1 - b) y (by omega) hy]
  rw [show n - (n - 1 - b) = b + 1 by omega, show n - (n - 1 - a + 1) = a by omega]
  omega
theorem mir_width {n : Nat} {L L' : Nat → Nat → Int} (h : ∀ a b, a ≤ n → b ≤ n → L' a b = L (n - b) (n - a)) {a b : Nat} (hab : a ≤ b) (hb : b < n) (p : Int) : widthN L' (n - 1 - b) (n - 1 - a) p n = widthN L a b p n := by
  rw [widthN_sum, widthN_sum]
  have e : pre (fun k => nearN L' (n - 1 - b) (n - 1 - a) p k (k + 1) + nearN L' (n - 1 - b) (n - 1 - a) p (k + 1) k) n = pre (turn n (fun k => nearN L a b p k (k + 1) + nearN L a b p (k + 1) k)) n := sumN_congr (fun k hk => by
    dsimp only [turn]
    rw [mir_near h hab hb (by omega) (by omega), mir_near h hab hb (by omega) (by omega), show n - k = n - 1 - k + 1 by omega, show n - (k + 1) = n - 1 - k by omega])
  rw [e, pre_turn _ _ _ (Nat.le_refl _), Nat.sub_self]
  show _ - (0 : Int) = _
  omega
theorem mir_settledN {n : Nat} {L L' : Nat → Nat → Int} (h : ∀ a b, a ≤ n → b ≤ n → L' a b = L (n - b) (n - a)) {a b : Nat} (hab : a ≤ b) (hb : b < n) : ∀ k, settlesN L' (n - 1 - b) (n - 1 - a) n k = settlesN L a b n k
  | 0 => rfl
  | k + 1 => by
    unfold settlesN
    rw [mir_settledN h hab hb k, mir_width h hab hb, h (n - 1 - a + 1) (n - 1 - b) (by omega) (by omega), show n - (n - 1 - b) = b + 1 by omega, show n - (n - 1 - a + 1) = a by omega]
theorem mir_settled {n : Nat} {L L' : Nat → Nat → Int} (h : ∀ a b, a ≤ n → b ≤ n → L' a b = L (n - b) (n - a)) {a b : Nat} (hab : a ≤ b) (hb : b < n) : settled L' (n - 1 - b) (n - 1 - a) n = settled L a b n := by
  unfold settled
  rw [h (n - 1 - a + 1) (n - 1 - b) (by omega) (by omega), h (n - 1 - b) (n - 1 - a + 1) (by omega) (by omega), show n - (n - 1 - b) = b + 1 by omega, show n - (n - 1 - a + 1) = a by omega, mir_settledN h hab hb]
theorem Rw.mir_next {r : Rw} (hr : r.ok) : r.mir.fitErr = r.fitErr ∧ r.mir.nextR.2.2 = r.nextR.2.2 := by
  have hm := Rw.mir_ok hr
  by_cases h : r.round = []
  · have h' := (Rw.mir_round hr).2 h
    refine ⟨(Rw.fit_zero hm h').trans (Rw.fit_zero hr h).symm, ?_⟩
    obtain ⟨a1, a2, a3, a4⟩ := Rw.next_good hr h
    obtain ⟨b1, b2, b3, b4⟩ := Rw.next_good hm h'
    have hL : ∀ a b, a ≤ r.n → b ≤ r.n → r.mir.search.1.L a b = r.search.1.L (r.n - b) (r.n - a) := fun a b ha hb => Rw.mir_L hr (Rw.fin_nil hr h) (Rw.fin_nil hm h') ha hb
    have u1 := b4 (r.n - 1 - r.nextR.2.1) (r.n - 1 - r.nextR.1) (by omega) (by show r.n - 1 - r.nextR.1 < r.n; omega)
    have u2 : settled r.mir.search.1.L (r.n - 1 - r.nextR.2.1) (r.n - 1 - r.nextR.1) r.n = settled r.search.1.L r.nextR.1 r.nextR.2.1 r.n := mir_settled hL a1 a2
    have b2' : r.mir.nextR.2.1 < r.n := b2
    have v1 := a4 (r.n - 1 - r.mir.nextR.2.1) (r.n - 1 - r.mir.nextR.1) (by omega) (by omega)
    have v2 : settled r.mir.search.1.L (r.n - 1 - (r.n - 1 - r.mir.nextR.1)) (r.n - 1 - (r.n - 1 - r.mir.nextR.2.1)) r.n = settled r.search.1.L (r.n - 1 - r.mir.nextR.2.1) (r.n - 1 - r.mir.nextR.1) r.n := mir_settled hL (by omega) (by omega)
    rw [show r.n - 1 - (r.n - 1 - r.mir.nextR.1) = r.mir.nextR.1 by omega, show r.n - 1 - (r.n - 1 - r.mir.nextR.2.1) = r.mir.nextR.2.1 by omega] at v2
    have b3' : r.mir.nextR.2.2 = settled r.mir.search.1.L r.mir.nextR.1 r.mir.nextR.2.1 r.n := b3
    have u1' : r.mir.nextR.2.2 ≤ settled r.mir.search.1.L (r.n - 1 - r.nextR.2.1) (r.n - 1 - r.nextR.1) r.n := u1
    omega
  · have h' : r.mir.round ≠ [] := fun e => h ((Rw.mir_round hr).1 e)
    have e : r.fitErr = 7 := by
      unfold Rw.fitErr
      rw [if_neg (by rw [Rw.check_ok.2 hr]; decide), if_neg (fun e => h (List.length_eq_zero_iff.1 e))]
    have e' : r.mir.fitErr = 7 := by
      unfold Rw.fitErr
      rw [if_neg (by rw [Rw.check_ok.2 hm]; decide), if_neg (fun e => h' (List.length_eq_zero_iff.1 e))]
    refine ⟨e'.trans e.symm, ?_⟩
    unfold Rw.nextR
    rw [if_neg (by rw [e']; decide), if_neg (by rw [e]; decide)]
/-! ### walks -/
def Fc.mir (n : Nat) (f : Fc) : Fc := if f.w then f else ⟨false, (n : Int) - 1 - f.i, f.m⟩
theorem Fc.mir_spec {r : Rw} (hr : r.ok) {f : Fc} (hf : r.has f) : r.mir.has (f.mir r.n) ∧ r.mir.from_ (f.mir r.n) = r.n - r.to_ f ∧ r.mir.to_ (f.mir r.n) = r.n - r.from_ f ∧ r.mir.num (f.mir r.n) = r.num f := by
  obtain ⟨w, i, m⟩ := f
  obtain ⟨h0, h1⟩ := hf
  cases w
  · simp only [Bool.false_eq_true, if_false] at h0 h1
    have e : Fc.mir r.n ⟨false, i, m⟩ = ⟨false, (r.n : Int) - 1 - i, m⟩ := rfl
    have es : r.mir.sp ((r.n : Int) - 1 - i).toNat = r.sp i.toNat := by
      show r.sp (r.n - 1 - ((r.n : Int) - 1 - i).toNat) = _
      rw [show r.n - 1 - ((r.n : Int) - 1 - i).toNat = i.toNat by omega]
    rw [e]
    refine ⟨⟨by show 0 ≤ (r.n : Int) - 1 - i; omega, by show (r.n : Int) - 1 - i < (r.n : Int); omega⟩, ?_, ?_, ?_⟩
    · cases m <;> simp [Rw.from_, Rw.to_, Rw.fa, Rw.fb] <;> omega
    · cases m <;> simp [Rw.from_, Rw.to_, Rw.fa, Rw.fb] <;> omega
    · cases m <;> simp [Rw.num, Rw.hi, Rw.lo, es]
  · simp only [if_true] at h0 h1
    have e : Fc.mir r.n ⟨true, i, m⟩ = ⟨true, i, m⟩ := rfl
    rw [e]
    have ev : r.mir.V i.toNat = (r.V i.toNat).mir r.n := rfl
    refine ⟨⟨h0, h1⟩, ?_, ?_, ?_⟩
    · cases m <;> simp [Rw.from_, Rw.to_, Rw.fa, Rw.fb, ev, Wg.mir] <;> omega
    · cases m <;> simp [Rw.from_, Rw.to_, Rw.fa, Rw.fb, ev, Wg.mir] <;> omega
    · cases m <;> simp [Rw.num, Rw.hi, Rw.lo, ev, Wg.mir]
def backL (n : Nat) (l : List Fc) : List Fc := (l.map (Fc.mir n)).reverse
theorem Chain.mir {r : Rw} (hr : r.ok) : ∀ {l : List Fc} {a b : Nat}, a ≤ r.n → b ≤ r.n → Chain r a b l → Chain r.mir (r.n - b) (r.n - a) (backL r.n l) ∧ wsum r.mir (backL r.n l) = wsum r l
  | [], a, b, _, _, h => by
    have : a = b := h
    subst this
    exact ⟨rfl, rfl⟩
  | f :: l, a, b, ha, hb, h => by
    obtain ⟨h1, h2, h3⟩ := h
    have hbd := Rw.ab_bd hr h1
    have hs := Fc.mir_spec hr h1
    obtain ⟨g1, g2⟩ := Chain.mir hr (show r.b f ≤ r.n from hbd.2.1) hb h3
    have e : backL r.n (f :: l) = backL r.n l ++ [f.mir r.n] := by simp [backL]
    rw [e]
    have ha' : r.mir.a (f.mir r.n) = r.n - r.b f := by
      unfold Rw.a
      rw [hs.2.1]
      omega
    have hb' : r.mir.b (f.mir r.n) = r.n - r.a f := by
      unfold Rw.b
      rw [hs.2.2.1]
      omega
    refine ⟨g1.append ⟨hs.1, ha', ?_⟩, ?_⟩
    · show r.mir.b (f.mir r.n) = r.n - a
      rw [hb', h2]
    · rw [wsum_append, g2]
      show _ + (r.mir.num (f.mir r.n) + 0) = r.num f + wsum r l
      rw [hs.2.2.2]
      omega
theorem Chain.all {r : Rw} : ∀ {l : List Fc} {a b : Nat}, Chain r a b l → ∀ f, f ∈ l → r.has f
  | f :: l, a, b, h, g, hg => by
    rcases List.mem_cons.1 hg with rfl | hg
    · exact h.1
    · exact Chain.all h.2.2 g hg
/-- a walk followed -/
theorem fol_chain {r : Rw} (hr : r.ok) {P : Nat → Fc} : ∀ (l : List Fc) (k : Nat) (a b : Nat) (s x0 y0 : Int), (∀ j, j < l.length → P (k + j) = l.getD j fc0) → Chain r a b l → r.fol P k = some (x0, y0, s) → (k ≠ 0 → y0 = (a : Int)) → 0 < k + l.length →
    r.fol P (k + l.length) = some (if k = 0 then (a : Int) else x0, (b : Int), s + wsum r l)
  | [], k, a, b, s, x0, y0, hP, hc, hf, h0, hpos => by
    have : a = b := hc
    subst this
    have hk : k ≠ 0 := by simp at hpos; omega
    rw [if_neg hk, ← h0 hk]
    show r.fol P k = some (x0, y0, s + 0)
    rw [hf, Int.add_zero]
  | f :: l, k, a, b, s, x0, y0, hP, hc, hf, h0, hpos => by
    obtain ⟨h1, h2, h3⟩ := hc
    have hbd := Rw.ab_bd hr h1
    have hpk : P k = f := hP 0 (by simp)
    have hfr : r.from_ f = (a : Int) := by rw [← hbd.2.2.2.2.2.1, h2]
    have hto : r.to_ f = ((r.b f : Nat) : Int) := hbd.2.2.2.2.2.2.symm
    have hstep : r.fol P (k + 1) = some (if k = 0 then (a : Int) else x0, ((r.b f : Nat) : Int), s + r.num f) := by
      unfold Rw.fol
      rw [hf]
      dsimp only
      rw [hpk, hfr, hto]
      by_cases e : k = 0
      · simp [e]
      · simp [e, h0 e]
    have g1 := fol_chain hr l (k + 1) (r.b f) b (s + r.num f) (if k = 0 then (a : Int) else x0) ((r.b f : Nat) : Int) (fun j hj => by
      have := hP (j + 1) (by simp; omega)
      rw [show k + 1 + j = k + (j + 1) by omega, this]
      rfl) h3 hstep (fun _ => rfl) (by omega)
    rw [List.length_cons, show k + (l.length + 1) = k + 1 + l.length by omega, g1, if_neg (by omega)]
    show some (_, (b : Int), s + r.num f + wsum r l) = some (_, (b : Int), s + (r.num f + wsum r l))
    rw [Int.add_assoc]
/-- a walk from one place to another shows its number -/
theorem shows_chain {r : Rw} (hr : r.ok) {P : Nat → Fc} {l : List Fc} {f t : Nat} (hft : f ≤ t) (ht : t < r.n) (hP : ∀ j, j < l.length → P j = l.getD j fc0) (hc : Chain r f (t + 1) l) (hl : l.length ≤ 20) : r.showsR (f : Int) (t : Int) true l.length P = (wsum r l, 0) := by
  have hne : 0 < l.length := by
    cases l with
    | nil =>
      have h : f = t + 1 := hc
      omega
    | cons x y => simp
  have hf := fol_chain (P := P) hr l 0 f (t + 1) 0 0 0 (fun j hj => by rw [Nat.zero_add]; exact hP j hj) hc rfl (fun e => absurd rfl e) (by omega)
  rw [Nat.zero_add, if_pos rfl, Int.zero_add] at hf
  have hb : r.binsErr (f : Int) (t : Int) = 0 := by
    unfold Rw.binsErr
    rw [if_neg (by simp only [inB]; simp; omega), if_neg (by omega)]
  have hk : r.knownErr l.length P = 0 := by
    unfold Rw.knownErr
    rw [if_neg (by omega), if_neg ?_]
    have : allN (fun k => r.knows (P k)) l.length = true := allN_iff.2 (fun k hk => by
      have hm : l.getD k fc0 ∈ l := by
        rw [List.getD_eq_getElem?_getD, List.getElem?_eq_getElem hk]
        exact List.getElem_mem hk
      have hh := Chain.all hc _ hm
      rw [hP k hk]
      generalize l.getD k fc0 = y at hh
      unfold Rw.knows
      unfold Rw.has at hh
      cases hw : y.w
      · rw [hw] at hh
        simp only [Bool.false_eq_true, if_false] at hh ⊢
        simp [inB]
        omega
      · rw [hw] at hh
        simp only [if_true] at hh ⊢
        simp [inB]
        omega)
    rw [this]
    decide
  unfold Rw.showsR
  rw [if_neg (by rw [Rw.check_ok.2 hr]; decide), if_neg (by rw [hb]; decide), if_neg (by rw [hk]; decide)]
  have hfr : r.followR P l.length = ((f : Int), ((t + 1 : Nat) : Int), wsum r l, true) := by
    unfold Rw.followR
    rw [hf]
    simp [hne]
  rw [hfr, if_pos ⟨rfl, rfl, by unfold waysR; simp⟩]
  rfl
end Go.Proofs.Ytnnikeolgknfoaa
