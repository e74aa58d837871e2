/- Most of package lot. -/
import Derived.Test.YtmbkngfcbgbeiaaGreatWn
set_option linter.unusedSimpArgs false
set_option linter.unusedVariables false
namespace Go.Proofs.YtmbkngfcbgbeiaaGreat
open Go.RowKit Go.Shelf
attribute [local go_sem] Oper.semAt_some

/-- one step of the search for the greatest bag that surely has a grade -/
def St.mostStep (st : St) (g : Gd) (o b : Bag) : Bag := if decide (o.size < b.size) && st.has b g then b else o
def St.mostOf (st : St) (g : Gd) (l : List Bag) : Bag := l.foldl (st.mostStep g) bagZ
def St.most (st : St) (g : Gd) : Bag := st.mostOf g (bagsOf st.all)
theorem St.mostOf_snoc (st : St) (g : Gd) (l : List Bag) (b : Bag) : st.mostOf g (l ++ [b]) = st.mostStep g (st.mostOf g l) b := by simp [St.mostOf]
theorem St.mostOf_in {st : St} (hst : st.ok) {g : Gd} : ∀ {l : List Bag}, (∀ b ∈ l, b.in_ st.all) → (st.mostOf g l).in_ st.all := fun {l} => by
  have hz : bagZ.in_ st.all := by
    have h0 := St.all_bd hst 0
    have h1 := St.all_bd hst 1
    have h2 := St.all_bd hst 2
    have h3 := St.all_bd hst 3
    simp only [Bag.at] at h0 h1 h2 h3
    exact ⟨⟨Int.le_refl _, h0.1⟩, ⟨Int.le_refl _, h1.1⟩, ⟨Int.le_refl _, h2.1⟩, Int.le_refl _, h3.1⟩
  unfold St.mostOf
  have key : ∀ (l : List Bag) (o : Bag), o.in_ st.all → (∀ b ∈ l, b.in_ st.all) → (l.foldl (st.mostStep g) o).in_ st.all := fun l => by
    induction l with
    | nil => intro o ho _; exact ho
    | cons b l ih =>
      intro o ho h
      simp only [List.foldl_cons]
      refine ih _ ?_ (fun x hx => h x (by simp [hx]))
      unfold St.mostStep
      split
      · exact h b (by simp)
      · exact ho
  exact fun h => key l _ hz h

def St.mostErr (st : St) (grade : Int) : Int :=
  if st.check ≠ 0 then st.check else if inB grade 0 ((st.m : Int) - 1) = false then 2 else if st.most (st.G grade.toNat) = bagZ then 1 else 0
/-- what Most gives -/
def MostPost (st : St) (grade : Int) (W : World) (e : Ending) (W' : World) : Prop :=
  Below W.heap.size W W' ∧ ((st.mostErr grade = 0 ∧ ∃ b, e = .returned (.tuple #[.slice (some ⟨b, 0, none⟩) st.n st.n, .int .i64 0]) ∧ W.heap.size ≤ b ∧ IntRow W' W'.heap.size (some ⟨b, 0, none⟩) st.n (st.most (st.G grade.toNat)).at) ∨
    (st.mostErr grade ≠ 0 ∧ e = .returned (.tuple #[.slice none 0 0, .int .i64 (st.mostErr grade)])))

set_option maxRecDepth 100000 in
set_option maxHeartbeats 2000000 in
theorem Most_no (st : St) (B : Nat) (pA gA : Option Addr) (pc gc : Nat) (grade : Int) (W : World) (hs : StRow W B st pA pc gA gc) (hno : st.check ≠ 0 ∨ inB grade 0 ((st.m : Int) - 1) = false) :
    Calls Tryz.prog 38 #[stV pA st.n pc gA st.m gc st.lots, .int .i64 grade] W (MostPost st grade W) := by
  have HS := Lib.hid hs
  have hB := hs.lt
  have hm := hs.m
  clear hs
  by_cases h0 : st.check = 0
  · have hnb : (st.check != 0) = false := by simpa using h0
    have hin : inB grade 0 ((st.m : Int) - 1) = false := by rcases hno with h | h; exact absurd h0 h; exact h
    have HR : Hid (st.mostErr grade = 2) := Lib.hid (by unfold St.mostErr; rw [if_neg (by simp [h0]), if_pos hin])
    have hok := Lib.hid (St.check_ok.1 h0)
    clear h0 hno
    go_enter Tryz.func38, Tryz.ntmps38
    go_wp2_with fail
    refine (opened_st st B pA gA pc gc _ (HS.out.later (by repeat (first | (with_reducible exact Below.refl _ _) | (with_reducible refine Below.drew ?_) | (with_reducible refine below_drewN ?_ _) | ((with_reducible refine below_alloc ?_ ?_ _); · (first | exact Nat.le_refl _ | omega | (simp; done) | (simp; omega) | (simp at *; omega))) | ((with_reducible refine below_set ?_ ?_ _); · (first | exact Nat.le_refl _ | omega | (simp; done) | (simp; omega) | (simp at *; omega))) | ((with_reducible refine below_via (by with_reducible assumption) ?_ ?_); · (first | exact Nat.le_refl _ | omega | (simp; done) | (simp; omega) | (simp at *; omega))))))).mono ?_
    rintro e w1 ⟨hb1, ⟨_, db, rfl, hD, hdb⟩ | ⟨hne, rfl⟩⟩
    · obtain ⟨hc1, hf1⟩ := bcell hb1; have hz1 := hb1.size; (try simp only [World.size_drew, World.heap_drewN, World.size_alloc] at hz1)
      go_wp2_with (go_at_call 67; refine (in_any _ _ _ _).mono ?_; rintro e w' ⟨rfl, rfl⟩)
      go_ret2
      exact ⟨(by repeat (first | (with_reducible exact Below.refl _ _) | (with_reducible refine Below.drew ?_) | (with_reducible refine below_drewN ?_ _) | ((with_reducible refine below_alloc ?_ ?_ _); · (first | exact Nat.le_refl _ | omega | (simp; done) | (simp; omega) | (simp at *; omega))) | ((with_reducible refine below_set ?_ ?_ _); · (first | exact Nat.le_refl _ | omega | (simp; done) | (simp; omega) | (simp at *; omega))) | ((with_reducible refine below_via (by with_reducible assumption) ?_ ?_); · (first | exact Nat.le_refl _ | omega | (simp; done) | (simp; omega) | (simp at *; omega))))), .inr ⟨by rw [HR.out]; decide, by rw [HR.out]; rfl⟩⟩
    · exact absurd (St.check_ok.2 hok.out) hne
  · have hnb : (st.check != 0) = true := by simpa using h0
    have HR : Hid (st.mostErr grade = st.check) := Lib.hid (by unfold St.mostErr; rw [if_pos h0])
    have H0 := Lib.hid h0
    clear h0 hno
    go_enter Tryz.func38, Tryz.ntmps38
    go_wp2_with fail
    refine (opened_st st B pA gA pc gc _ (HS.out.later (by repeat (first | (with_reducible exact Below.refl _ _) | (with_reducible refine Below.drew ?_) | (with_reducible refine below_drewN ?_ _) | ((with_reducible refine below_alloc ?_ ?_ _); · (first | exact Nat.le_refl _ | omega | (simp; done) | (simp; omega) | (simp at *; omega))) | ((with_reducible refine below_set ?_ ?_ _); · (first | exact Nat.le_refl _ | omega | (simp; done) | (simp; omega) | (simp at *; omega))) | ((with_reducible refine below_via (by with_reducible assumption) ?_ ?_); · (first | exact Nat.le_refl _ | omega | (simp; done) | (simp; omega) | (simp at *; omega))))))).mono ?_
    rintro e w1 ⟨hb1, ⟨hok, db, rfl, hD, hdb⟩ | ⟨hne, rfl⟩⟩
    · exact absurd (St.check_ok.2 hok) H0.out
    · obtain ⟨hc1, hf1⟩ := bcell hb1; have hz1 := hb1.size; (try simp only [World.size_drew, World.heap_drewN, World.size_alloc] at hz1)
      clear hne
      go_wp2_with fail
      go_ret2
      exact ⟨(by repeat (first | (with_reducible exact Below.refl _ _) | (with_reducible refine Below.drew ?_) | (with_reducible refine below_drewN ?_ _) | ((with_reducible refine below_alloc ?_ ?_ _); · (first | exact Nat.le_refl _ | omega | (simp; done) | (simp; omega) | (simp at *; omega))) | ((with_reducible refine below_set ?_ ?_ _); · (first | exact Nat.le_refl _ | omega | (simp; done) | (simp; omega) | (simp at *; omega))) | ((with_reducible refine below_via (by with_reducible assumption) ?_ ?_); · (first | exact Nat.le_refl _ | omega | (simp; done) | (simp; omega) | (simp at *; omega))))), .inr ⟨by rw [HR.out]; exact H0.out, by rw [HR.out]; rfl⟩⟩

set_option maxRecDepth 100000 in
set_option maxHeartbeats 2000000 in
theorem Most_yes (st : St) (B : Nat) (pA gA : Option Addr) (pc gc : Nat) (k : Nat) (W : World) (hs : StRow W B st pA pc gA gc) (hok : st.ok) (hk : k < st.m) :
    Calls Tryz.prog 38 #[stV pA st.n pc gA st.m gc st.lots, .int .i64 k] W (MostPost st k W) := by
  have HS := Lib.hid hs
  have hB := hs.lt
  have hm := hok.m4
  have hc0 := St.check_ok.2 hok
  have hnb : (st.check != 0) = false := by simpa using hc0
  have hin : inB (k : Int) 0 ((st.m : Int) - 1) = true := by simp [inB]; omega
  have HR0 : Hid (st.mostErr k = if st.most (st.G k) = bagZ then 1 else 0) := Lib.hid (by unfold St.mostErr; rw [if_neg (by simp [hc0]), if_neg (by rw [hin]; decide)]; rfl)
  have HO := Lib.hid hok
  clear hs hok hc0
  refine calls_of_wp_marks Tryz.func38 rfl ?_; simp only [Tryz.ntmps38, List.size_toArray, List.length_cons, List.length_nil, Nat.reduceAdd, Nat.reduceSub, Array.replicate_succ, Array.replicate_zero, List.push_toArray, List.append_toArray, List.nil_append, List.cons_append]
  go_wp2_with fail
  refine (opened_st st B pA gA pc gc _ (HS.out.later (by repeat (first | (with_reducible exact Below.refl _ _) | (with_reducible refine Below.drew ?_) | (with_reducible refine below_drewN ?_ _) | ((with_reducible refine below_alloc ?_ ?_ _); · (first | exact Nat.le_refl _ | omega | (simp; done) | (simp; omega) | (simp at *; omega))) | ((with_reducible refine below_set ?_ ?_ _); · (first | exact Nat.le_refl _ | omega | (simp; done) | (simp; omega) | (simp at *; omega))) | ((with_reducible refine below_via (by with_reducible assumption) ?_ ?_); · (first | exact Nat.le_refl _ | omega | (simp; done) | (simp; omega) | (simp at *; omega))))))).mono ?_
  rintro e w1 ⟨hb1, ⟨_, db, rfl, hD, hdb⟩ | ⟨hne, rfl⟩⟩
  · obtain ⟨hc1, hf1⟩ := bcell hb1; have hz1 := hb1.size; (try simp only [World.size_drew, World.heap_drewN, World.size_alloc] at hz1)
    have c0 := hD.c0
    have c1 := hD.c1
    have c2 := hD.c2
    have c3 := hD.c3
    have HD := Lib.hid hD
    simp only [World.size_alloc] at hdb
    have hst : StAt w1 W.heap.size pA st.n pc gA st.m gc st.lots := (by (repeat' refine And.intro ?_ ?_) <;> (repeat (first | (with_reducible assumption) | (simp; done) | (with_reducible refine cell_drew_of ?_) | (with_reducible refine cell_drewN_of ?_) | (with_reducible refine cell_below_of (by with_reducible assumption) ?_) | ((with_reducible refine cell_new_of ?_ ?_) <;> (first | (with_reducible rfl) | (simp; done))) | ((with_reducible refine fro_new_of ?_) <;> (first | (with_reducible rfl) | (simp; done))) | (with_reducible refine cell_alloc_of _ ?_) | (with_reducible refine cell_set_of _ (by (first | exact Nat.le_refl _ | omega | (simp; done) | (simp; omega))) ?_) | (with_reducible refine fro_drew_of ?_) | (with_reducible refine fro_drewN_of ?_) | (with_reducible refine fro_below_of (by with_reducible assumption) (by (first | exact Nat.le_refl _ | omega | (simp; done) | (simp; omega))) ?_) | (with_reducible refine fro_alloc_of _ (by (first | exact Nat.le_refl _ | omega | (simp; done) | (simp; omega))) ?_) | (with_reducible refine fro_set_of _ ?_))))
    have hgr : N1At w1 (W.heap.size + 1) k := (by (repeat' refine And.intro ?_ ?_) <;> (repeat (first | (with_reducible assumption) | (simp; done) | (with_reducible refine cell_drew_of ?_) | (with_reducible refine cell_drewN_of ?_) | (with_reducible refine cell_below_of (by with_reducible assumption) ?_) | ((with_reducible refine cell_new_of ?_ ?_) <;> (first | (with_reducible rfl) | (simp; done))) | ((with_reducible refine fro_new_of ?_) <;> (first | (with_reducible rfl) | (simp; done))) | (with_reducible refine cell_alloc_of _ ?_) | (with_reducible refine cell_set_of _ (by (first | exact Nat.le_refl _ | omega | (simp; done) | (simp; omega))) ?_) | (with_reducible refine fro_drew_of ?_) | (with_reducible refine fro_drewN_of ?_) | (with_reducible refine fro_below_of (by with_reducible assumption) (by (first | exact Nat.le_refl _ | omega | (simp; done) | (simp; omega))) ?_) | (with_reducible refine fro_alloc_of _ (by (first | exact Nat.le_refl _ | omega | (simp; done) | (simp; omega))) ?_) | (with_reducible refine fro_set_of _ ?_))))
    have hy := Lib.hid (show Below W.heap.size W w1 from (by repeat (first | (with_reducible exact Below.refl _ _) | (with_reducible refine Below.drew ?_) | (with_reducible refine below_drewN ?_ _) | ((with_reducible refine below_alloc ?_ ?_ _); · (first | exact Nat.le_refl _ | omega | (simp; done) | (simp; omega) | (simp at *; omega))) | ((with_reducible refine below_set ?_ ?_ _); · (first | exact Nat.le_refl _ | omega | (simp; done) | (simp; omega) | (simp at *; omega))) | ((with_reducible refine below_via (by with_reducible assumption) ?_ ?_); · (first | exact Nat.le_refl _ | omega | (simp; done) | (simp; omega) | (simp at *; omega))))))
    clear hD
    go_wp2_with (go_at_call 67; refine (in_any _ _ _ _).mono ?_; rintro e w' ⟨rfl, rfl⟩)
    refine (within_any st.all _).mono ?_
    rintro e w2 ⟨rfl, hbag, hsz, hb2⟩
    have hg2 : Below w1.heap.size w1 w2 := (by repeat (first | (with_reducible exact Below.refl _ _) | (with_reducible refine Below.drew ?_) | (with_reducible refine below_drewN ?_ _) | ((with_reducible refine below_alloc ?_ ?_ _); · (first | exact Nat.le_refl _ | omega | (simp; done) | (simp; omega) | (simp at *; omega))) | ((with_reducible refine below_set ?_ ?_ _); · (first | exact Nat.le_refl _ | omega | (simp; done) | (simp; omega) | (simp at *; omega))) | ((with_reducible refine below_via (by with_reducible assumption) ?_ ?_); · (first | exact Nat.le_refl _ | omega | (simp; done) | (simp; omega) | (simp at *; omega)))))
    have hdv : V1At w2 w1.heap.size (.pointer (some ⟨db, 0, none⟩)) := (show V1At ((w1.alloc (.cells #[.pointer (some ⟨db, 0, none⟩)] 82)).alloc (.cells #[.int .i64 0, .int .i64 0, .int .i64 0, .int .i64 0] 89)) w1.heap.size _ from (by (repeat' refine And.intro ?_ ?_) <;> (repeat (first | (with_reducible assumption) | (simp; done) | (with_reducible refine cell_drew_of ?_) | (with_reducible refine cell_drewN_of ?_) | (with_reducible refine cell_below_of (by with_reducible assumption) ?_) | ((with_reducible refine cell_new_of ?_ ?_) <;> (first | (with_reducible rfl) | (simp; done))) | ((with_reducible refine fro_new_of ?_) <;> (first | (with_reducible rfl) | (simp; done))) | (with_reducible refine cell_alloc_of _ ?_) | (with_reducible refine cell_set_of _ (by (first | exact Nat.le_refl _ | omega | (simp; done) | (simp; omega))) ?_) | (with_reducible refine fro_drew_of ?_) | (with_reducible refine fro_drewN_of ?_) | (with_reducible refine fro_below_of (by with_reducible assumption) (by (first | exact Nat.le_refl _ | omega | (simp; done) | (simp; omega))) ?_) | (with_reducible refine fro_alloc_of _ (by (first | exact Nat.le_refl _ | omega | (simp; done) | (simp; omega))) ?_) | (with_reducible refine fro_set_of _ ?_))))).later hb2
    have hob : BagAt w2 (w1.heap.size + 1) bagZ := (show BagAt ((w1.alloc (.cells #[.pointer (some ⟨db, 0, none⟩)] 82)).alloc (.cells #[.int .i64 0, .int .i64 0, .int .i64 0, .int .i64 0] 89)) (w1.heap.size + 1) ⟨0, 0, 0, 0⟩ from (by (repeat' refine And.intro ?_ ?_) <;> (repeat (first | (with_reducible assumption) | (simp; done) | (with_reducible refine cell_drew_of ?_) | (with_reducible refine cell_drewN_of ?_) | (with_reducible refine cell_below_of (by with_reducible assumption) ?_) | ((with_reducible refine cell_new_of ?_ ?_) <;> (first | (with_reducible rfl) | (simp; done))) | ((with_reducible refine fro_new_of ?_) <;> (first | (with_reducible rfl) | (simp; done))) | (with_reducible refine cell_alloc_of _ ?_) | (with_reducible refine cell_set_of _ (by (first | exact Nat.le_refl _ | omega | (simp; done) | (simp; omega))) ?_) | (with_reducible refine fro_drew_of ?_) | (with_reducible refine fro_drewN_of ?_) | (with_reducible refine fro_below_of (by with_reducible assumption) (by (first | exact Nat.le_refl _ | omega | (simp; done) | (simp; omega))) ?_) | (with_reducible refine fro_alloc_of _ (by (first | exact Nat.le_refl _ | omega | (simp; done) | (simp; omega))) ?_) | (with_reducible refine fro_set_of _ ?_))))).later hb2
    simp only [World.size_alloc] at hsz hbag
    have hs2 : w1.heap.size + 1 + 1 + 1 ≤ w2.heap.size := by omega
    have HD2 := Lib.hid (HD.out.later (by omega) hg2)
    have hst2 := hst.later hg2
    have hgr2 := hgr.later hg2
    have hy2 := Lib.hid (hy.out.trans (hg2.mono hy.out.size))
    clear hsz hc1 hf1 hb1 hb2 c0 c1 c2 c3 hst hgr
    go_wp2_with fail
    have hk0 : (0 : Int) ≤ (k : Int) := by omega
    have hkm : (k : Int) < (st.m : Int) := by omega
    refine wp_within st.all (fun k _ => St.all_bd HO.out k) (w1.heap.size + 1 + 1) rfl rfl
      (fun pre Wx => BagAt Wx (w1.heap.size + 1) (st.mostOf (st.G k) pre) ∧ V1At Wx w1.heap.size (.pointer (some ⟨db, 0, none⟩)) ∧ N1At Wx (W.heap.size + 1) k ∧ StAt Wx W.heap.size pA st.n pc gA st.m gc st.lots ∧ BagC Wx (w1.heap.size + 1 + 1) st.all ∧ DeskOf Wx B db st ∧ Below W.heap.size W Wx ∧ w2.heap.size ≤ Wx.heap.size)
      (fun _ _ _ => False)
      (fun s A C ⟨h1, h2, h3, h4, h5, h6, h7, h8⟩ hb => ⟨h1.same (hb.block _ (by omega)), h2.same (hb.block _ (by omega)), h3.same (hb.block _ (by omega)), h4.same (hb.block _ (by omega)), h5.same (hb.block _ (by omega)), h6.below hb (by omega) (by have := HD2.out.lt; omega) hb.size, h7.trans (hb.mono (by omega)), Nat.le_trans h8 hb.size⟩)
      (fun _ _ _ _ h _ => h) (fun _ _ h => h.2.2.2.2.1) ⟨hob, hdv, hgr2, hst2, hbag, HD2.out, hy2.out, Nat.le_refl _⟩
      ?fr ?assign ?body ?done ?stop
    case assign =>
      intro l pre x Wr K hi hK
      have HK := Lib.hid hK
      clear hK hi
      gi_wp2
      obtain ⟨Bx, hBx⟩ : ∃ Bx, Bx = Wr.heap.size := ⟨_, rfl⟩
      rw [← hBx]
      refine HK.out Bx _ hBx ?_ ?_
      · exact (by repeat (first | (with_reducible exact Below.refl _ _) | (with_reducible refine Below.drew ?_) | (with_reducible refine below_drewN ?_ _) | ((with_reducible refine below_alloc ?_ ?_ _); · (first | exact Nat.le_refl _ | omega | (simp; done) | (simp; omega) | (simp at *; omega))) | ((with_reducible refine below_set ?_ ?_ _); · (first | exact Nat.le_refl _ | omega | (simp; done) | (simp; omega) | (simp at *; omega))) | ((with_reducible refine below_via (by with_reducible assumption) ?_ ?_); · (first | exact Nat.le_refl _ | omega | (simp; done) | (simp; omega) | (simp at *; omega)))))
      subst hBx
      refine at4' ?_ ?_ ?_ ?_ <;> (repeat (first | (with_reducible assumption) | (simp; done) | (with_reducible refine cell_drew_of ?_) | (with_reducible refine cell_drewN_of ?_) | (with_reducible refine cell_below_of (by with_reducible assumption) ?_) | ((with_reducible refine cell_new_of ?_ ?_) <;> (first | (with_reducible rfl) | (simp; done))) | ((with_reducible refine fro_new_of ?_) <;> (first | (with_reducible rfl) | (simp; done))) | (with_reducible refine cell_alloc_of _ ?_) | (with_reducible refine cell_set_of _ (by (first | exact Nat.le_refl _ | omega | (simp; done) | (simp; omega))) ?_) | (with_reducible refine fro_drew_of ?_) | (with_reducible refine fro_drewN_of ?_) | (with_reducible refine fro_below_of (by with_reducible assumption) (by (first | exact Nat.le_refl _ | omega | (simp; done) | (simp; omega))) ?_) | (with_reducible refine fro_alloc_of _ (by (first | exact Nat.le_refl _ | omega | (simp; done) | (simp; omega))) ?_) | (with_reducible refine fro_set_of _ ?_)))
    case body =>
      rintro l pre x Bx Wr ⟨h1, h2, h3, h4, h5, h6, h7, h8⟩ hBx hx hpre hlt
      have HXI := Lib.hid (mem_bagsOf.1 (hpre.subset (by simp : x ∈ pre ++ [x])))
      have HOI := Lib.hid (St.mostOf_in HO.out (g := st.G k) (l := pre) (fun b hb => mem_bagsOf.1 (hpre.subset (by simp [hb]))))
      have HX6 := Lib.hid (St.in_six HO.out HXI.out)
      have HO6 := Lib.hid (St.in_six HO.out HOI.out)
      have HG := Lib.hid (HO.out.gd k hk)
      have hstep := Lib.hid (st.mostOf_snoc (st.G k) pre x)
      have HP := Lib.hid hpre
      have HX := Lib.hid hx
      have H := Lib.hid (And.intro h1 (And.intro h2 (And.intro h3 (And.intro h4 (And.intro h5 (And.intro h6 (And.intro h7 h8)))))))
      have hslt := h8
      obtain ⟨gb, go, rfl, hgb, gc0, gc1⟩ := (HS.out.g.below (h7.mono hB)) k hk
      generalize hoo : st.mostOf (st.G k) pre = o at h1 HOI HO6 hstep
      have HOO := Lib.hid hoo
      have x0 := cell_regrown (hx 0 (by omega))
      have x1 := cell_regrown (hx 1 (by omega))
      have x2 := cell_regrown (hx 2 (by omega))
      have x3 := cell_regrown (hx 3 (by omega))
      simp only [Bag.at] at x0 x1 x2 x3
      have o0 := cell_regrown h1.1.1
      have o1 := cell_regrown h1.1.2.1
      have o2 := cell_regrown h1.1.2.2.1
      have o3 := cell_regrown h1.1.2.2.2
      have v0 := cell_regrown h2.1
      have n0 := cell_regrown h3.1
      have s1 := cell_regrown h4.2.1
      have g0 := cell_regrown gc0
      have g1 := cell_regrown gc1
      have HDD := Lib.hid h6
      have hbl : B ≤ Wr.heap.size := by omega
      clear h1 h2 h3 h4 h5 h6 h7 h8 hx gc0 gc1 hpre hoo
      cases hcmp : decide (o.size < x.size) with
      | false =>
        gi_wp2
        refine region_qb_in (by kernel_rfl) (by kernel_rfl) (by kernel_rfl) ?_
        repeat (first | go_big_quiet_step ((first | (go_at_call 68; exact Calls.regrown_of (bsize_any _ _ (by first | exact HX6.out | exact HO6.out))) | (go_at_call 69; exact Calls.regrown_of (has_any st HO.out x (st.G k) HG.out db _ ((HDD.out.at hbl).later (below_regrown _ _ _)) HXI.out)))) | quiet_step ((first | (go_at_call 68; exact Calls.regrown_of (bsize_any _ _ (by first | exact HX6.out | exact HO6.out))) | (go_at_call 69; exact Calls.regrown_of (has_any st HO.out x (st.G k) HG.out db _ ((HDD.out.at hbl).later (below_regrown _ _ _)) HXI.out)))))
        refine wpQuiet_nil ?_; intro wq hbq
        clear x0 x1 x2 x3 o0 o1 o2 o3 v0 n0 s1 g0 g1
        gi_wp2
        have e1 : st.mostOf (st.G k) (pre ++ [x]) = st.mostOf (st.G k) pre := by rw [hstep.out, HOO.out]; unfold St.mostStep; rw [hcmp]; rfl
        obtain ⟨h1, h2, h3, h4, h5, h6, h7, h8⟩ := H.out
        refine ⟨.below hbq, by rw [e1]; exact h1.later hbq, h2.later hbq, h3.later hbq, h4.later hbq, h5.same (hbq.block _ h5.lt), h6.later hbl hbq, h7.trans (hbq.mono (by omega)), Nat.le_trans h8 hbq.size⟩
      | true =>
        cases hhas : st.has x (st.G k) with
        | false =>
          have HH := Lib.hid hhas
          gi_wp2
          refine region_qb_in (by kernel_rfl) (by kernel_rfl) (by kernel_rfl) ?_
          repeat (first | go_big_quiet_step ((first | (go_at_call 68; exact Calls.regrown_of (bsize_any _ _ (by first | exact HX6.out | exact HO6.out))) | (go_at_call 69; exact Calls.regrown_of (has_any st HO.out x (st.G k) HG.out db _ ((HDD.out.at hbl).later (below_regrown _ _ _)) HXI.out)))) | quiet_step ((first | (go_at_call 68; exact Calls.regrown_of (bsize_any _ _ (by first | exact HX6.out | exact HO6.out))) | (go_at_call 69; exact Calls.regrown_of (has_any st HO.out x (st.G k) HG.out db _ ((HDD.out.at hbl).later (below_regrown _ _ _)) HXI.out)))))
          refine wpQuiet_nil ?_; intro wq hbq
          clear x0 x1 x2 x3 o0 o1 o2 o3 v0 n0 s1 g0 g1
          gi_wp2
          have e1 : st.mostOf (st.G k) (pre ++ [x]) = st.mostOf (st.G k) pre := by rw [hstep.out, HOO.out]; unfold St.mostStep; rw [HH.out]; simp
          obtain ⟨h1, h2, h3, h4, h5, h6, h7, h8⟩ := H.out
          refine ⟨.below hbq, by rw [e1]; exact h1.later hbq, h2.later hbq, h3.later hbq, h4.later hbq, h5.same (hbq.block _ h5.lt), h6.later hbl hbq, h7.trans (hbq.mono (by omega)), Nat.le_trans h8 hbq.size⟩
        | true =>
          have HH := Lib.hid hhas
          gi_wp2
          refine region_qb_in (by kernel_rfl) (by kernel_rfl) (by kernel_rfl) ?_
          repeat (first | go_big_quiet_step ((first | (go_at_call 68; exact Calls.regrown_of (bsize_any _ _ (by first | exact HX6.out | exact HO6.out))) | (go_at_call 69; exact Calls.regrown_of (has_any st HO.out x (st.G k) HG.out db _ ((HDD.out.at hbl).later (below_regrown _ _ _)) HXI.out)))) | quiet_step ((first | (go_at_call 68; exact Calls.regrown_of (bsize_any _ _ (by first | exact HX6.out | exact HO6.out))) | (go_at_call 69; exact Calls.regrown_of (has_any st HO.out x (st.G k) HG.out db _ ((HDD.out.at hbl).later (below_regrown _ _ _)) HXI.out)))))
          refine wpQuiet_nil ?_; intro wq hbq
          clear x0 x1 x2 x3 o0 o1 o2 o3 v0 n0 s1 g0 g1
          have hxq := HX.out.same (hbq.block _ HX.out.lt)
          have y0 := hxq 0 (by omega)
          have y1 := hxq 1 (by omega)
          have y2 := hxq 2 (by omega)
          have y3 := hxq 3 (by omega)
          simp only [Bag.at] at y0 y1 y2 y3
          have hobq := Lib.hid (H.out.1.later hbq)
          obtain ⟨⟨p0, p1, p2, p3⟩, q0, q1, q2, q3⟩ := hobq.out
          gi_wp2
          have e1 : st.mostOf (st.G k) (pre ++ [x]) = x := by rw [hstep.out]; unfold St.mostStep; rw [HH.out, hcmp]; rfl
          obtain ⟨h1, h2, h3, h4, h5, h6, h7, h8⟩ := H.out
          refine (show _ ∧ _ from ⟨?_, ?_⟩)
          · exact (NewFrom.below hbq).trans ⟨Nat.le_of_eq (putBag_size wq (w1.heap.size + 1) x).symm, fun i hi _ => putBag_heap wq (w1.heap.size + 1) x (by omega)⟩
          · have hbp := putBag_below (w := wq) (w1.heap.size + 1) x (Nat.le_refl _)
            have hdl := HD.out.lt
            have hs1 := hy.out.size
            have hsp := putBag_size wq (w1.heap.size + 1) x
            have hsq := hbq.size
            refine ⟨by rw [e1]; exact putBag_at hobq.out, (h2.later hbq).same (putBag_heap _ _ _ (by omega)), (h3.later hbq).same (putBag_heap _ _ _ (by omega)), (h4.later hbq).same (putBag_heap _ _ _ (by omega)), (h5.same (hbq.block _ h5.lt)).same (putBag_heap _ _ _ (by omega)),
              (h6.later hbl hbq).keep (Nat.le_of_eq hsp.symm) (fun i hi => putBag_heap _ _ _ (by rcases hi with hi | rfl <;> omega)), (h7.trans (hbq.mono (by omega))).trans (hbp.mono (by omega)), Nat.le_trans (Nat.le_trans h8 hbq.size) (Nat.le_of_eq hsp.symm)⟩
    case done =>
      rintro D Wd hD ⟨h1, h2, h3, h4, h5, h6, h7, h8⟩ hdef
      have HI := Lib.hid (St.mostOf_in HO.out (g := st.G k) (l := bagsOf st.all) (fun b hb => mem_bagsOf.1 hb))
      have hr : st.mostOf (st.G k) (bagsOf st.all) = st.most (st.G k) := rfl
      rw [hr] at h1 HI
      have HRR := Lib.hid hr
      generalize hoo : st.most (st.G k) = o at h1 HI HR0
      have HOO := Lib.hid hoo
      obtain ⟨⟨p0, p1, p2, p3⟩, _⟩ := h1
      have v0 := h2.1
      clear hr hoo
      have HD4 := Lib.hid h6
      have hdl := h6.lt
      by_cases hz : o = bagZ
      · have heq : ∀ w, (Op.equalIn 10000 89 (bagV o) (.agg #[.int .i64 0, .int .i64 0, .int .i64 0, .int .i64 0])).run Tryz.prog w = .ok true w := fun w => by rw [eq_bagZ, decide_eq_true hz]
        have HR : Hid (st.mostErr k = 1) := Lib.hid (by rw [HR0.out, if_pos hz])
        have HDef := Lib.hid hdef
        clear hz hdef
        go_wp2_with fail
        refine ⟨by simp, .inl ⟨_, _, rfl, run_takeDeferred HDef.out, ?_⟩⟩
        refine ⟨.tuple #[.slice none 0 0, .int .i64 1], ?_, ?_, .inr ⟨by rw [HR.out]; decide, by rw [HR.out]⟩⟩
        · simp [results, Tryz.results38, go_sem]
        · exact h7.trans (below_put _ _ _ _ (by omega) (by omega))
      · have heq : ∀ w, (Op.equalIn 10000 89 (bagV o) (.agg #[.int .i64 0, .int .i64 0, .int .i64 0, .int .i64 0])).run Tryz.prog w = .ok false w := fun w => by rw [eq_bagZ, decide_eq_false hz]
        have HR : Hid (st.mostErr k = 0) := Lib.hid (by rw [HR0.out, if_neg hz])
        have HDef := Lib.hid hdef
        have n1 := HO.out.n1
        have n4 := HO.out.n4
        obtain ⟨pA', pc', gA', gc', _, _, q0, _, _, _⟩ := HD4.out.rows
        clear hz hdef
        go_wp2_with fail
        refine (list_n st.n n1 n4 o db pA' pc' _ q0).mono ?_
        rintro e w5 ⟨b5, rfl, hb5, hrow, hbb⟩
        have HDef5 := Lib.hid ((hbb.block D (Array.getElem?_eq_some_iff.1 HDef.out).1).trans HDef.out)
        have HROW := Lib.hid hrow
        have hs5 := hbb.size
        clear hrow
        go_wp2_with fail
        refine ⟨by simp, .inl ⟨_, _, rfl, run_takeDeferred HDef5.out, ?_⟩⟩
        refine ⟨.tuple #[.slice (some ⟨b5, 0, none⟩) st.n st.n, .int .i64 0], ?_, ?_, .inl ⟨HR.out, b5, rfl, by omega, ?_⟩⟩
        · simp [results, Tryz.results38, go_sem]
        · exact (h7.trans (hbb.mono (by omega))).trans (below_put _ _ _ _ (by omega) (by omega))
        · show IntRow _ _ _ _ (st.most (st.G k)).at
          rw [HOO.out]
          refine (fun j hj => ?_)
          obtain ⟨b, oo, hA, hlt', hc⟩ := HROW.out j hj
          have hne : b ≠ D := by
            rintro rfl
            obtain ⟨ob, ho, hcc⟩ := cells_of_cell hc
            dsimp only at ho
            rw [HDef5.out] at ho; cases ho; cases hcc
          exact ⟨b, oo, hA, by simpa using hlt', cell_same (World.putObj_heap_other hne) hc⟩
    case stop => exact fun _ _ _ _ _ _ h => h.elim
  · exact absurd (St.check_ok.2 HO.out) hne

/-- lot.Most -/
theorem Most_any (st : St) (B : Nat) (pA gA : Option Addr) (pc gc : Nat) (grade : Int) (W : World) (hs : StRow W B st pA pc gA gc) :
    Calls Tryz.prog 38 #[stV pA st.n pc gA st.m gc st.lots, .int .i64 grade] W (MostPost st grade W) := by
  by_cases h0 : st.check = 0
  · cases hin : inB grade 0 ((st.m : Int) - 1) with
    | false => exact Most_no st B pA gA pc gc grade W hs (.inr hin)
    | true =>
      have hr : 0 ≤ grade ∧ grade ≤ (st.m : Int) - 1 := by simpa [inB] using hin
      obtain ⟨k, rfl⟩ := Int.eq_ofNat_of_zero_le hr.1
      exact Most_yes st B pA gA pc gc k W hs (St.check_ok.1 h0) (by omega)
  · exact Most_no st B pA gA pc gc grade W hs (.inl h0)
end Go.Proofs.YtmbkngfcbgbeiaaGreat
