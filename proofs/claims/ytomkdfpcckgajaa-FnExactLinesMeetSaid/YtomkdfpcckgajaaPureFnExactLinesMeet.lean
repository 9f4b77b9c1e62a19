/- The program's LinesMeet answers as the reference's and leaves both slices as they were, for all two slices of points. -/
import Derived.Test.YtomkdfpcckgajaaQFnExactLinesMeetx14
import Derived.Test.YtomkdfpcckgajaaBase
import Derived.Test.YtomkdfpcckgajaaGeo
import Derived.Test.YtomkdfpcckgajaaLn
import Derived.Test.YtomkdfpcckgajaaLst
import Derived.Test.YtomkdfpcckgajaaHw
namespace Go.Proofs.Ytomkdfpcckgajaa.Pure
open Go Go.RowKit Go.Proofs.Ytomkdfpcckgajaa.PFnExactLinesMeet Go.Proofs.YtomkdfpcckgajaaW.PrintWords Go.Proofs.YtomkdfpcckgajaaW.PrintLast Go.Proofs.YtomkdfpcckgajaaW.PrintMore Go.Proofs.Ytomkdfpcckgajaa.Base Go.Proofs.Ytomkdfpcckgajaa.Geo Go.Proofs.Ytomkdfpcckgajaa.Ln Go.Proofs.Ytomkdfpcckgajaa.Lst Go.Proofs.Ytomkdfpcckgajaa.Hw
set_option linter.unusedVariables false
set_option linter.unusedSimpArgs false
def pts (l : List S36) : List Pt := l.map fun x => (x.f0, x.f1)
theorem pts_length (l : List S36) : (pts l).length = l.length := by simp [pts]
theorem at_pts (l : List S36) (i : Nat) : at_ (pts l) i = ((rd_T36 l (i : Int)).f0, (rd_T36 l (i : Int)).f1) := by
  unfold at_ pts rd_T36
  simp only [List.getD_eq_getElem?_getD, List.getElem?_map, Int.toNat_natCast]
  cases l[i]? <;> rfl
theorem rdP_get {l : List S36} {i : Nat} (h : i < l.length) : l[i]? = some (rd_T36 l (i : Int)) := by
  unfold rd_T36
  simp [List.getD_eq_getElem?_getD, h]
theorem rdP_drop {l : List S36} {i : Nat} (h : i < l.length) : l.drop i = rd_T36 l (i : Int) :: l.drop (i + 1) := by
  have e := rdP_get h
  rw [List.getElem?_eq_getElem h] at e
  rw [List.drop_eq_getElem_cons h, Option.some.inj e]
theorem pt_eta (x : S36) : (⟨x.f0, x.f1⟩ : S36) = x := rfl
theorem pt_ext {x y : S36} (h0 : x.f0 = y.f0) (h1 : x.f1 = y.f1) : x = y := by cases x; cases y; simp_all
theorem w64_pred {i : Nat} (h0 : 0 < i) (hn : i ≤ 140737488355328) : wrap64 ((i : Int) - 1) = ((i - 1 : Nat) : Int) := by
  rw [w64 (by omega) (by omega)]; omega
def sgs (l : List S38) : List Sg := l.map fun x => ((x.f0.f0, x.f0.f1), (x.f1.f0, x.f1.f1))
theorem sgs_length (l : List S38) : (sgs l).length = l.length := by simp [sgs]
theorem at_sgs (l : List S38) (i : Nat) : sgAt (sgs l) i = (((rd_T38 l (i : Int)).f0.f0, (rd_T38 l (i : Int)).f0.f1), ((rd_T38 l (i : Int)).f1.f0, (rd_T38 l (i : Int)).f1.f1)) := by
  unfold sgAt sgs rd_T38
  simp only [List.getD_eq_getElem?_getD, List.getElem?_map, Int.toNat_natCast]
  cases l[i]? <;> rfl
theorem rdG_get {l : List S38} {i : Nat} (h : i < l.length) : l[i]? = some (rd_T38 l (i : Int)) := by
  unfold rd_T38
  simp [List.getD_eq_getElem?_getD, h]
theorem rdG_drop {l : List S38} {i : Nat} (h : i < l.length) : l.drop i = rd_T38 l (i : Int) :: l.drop (i + 1) := by
  have e := rdG_get h
  rw [List.getElem?_eq_getElem h] at e
  rw [List.drop_eq_getElem_cons h, Option.some.inj e]
theorem sgs_drop {l : List S38} {i : Nat} (h : i < l.length) : (sgs l).drop i = (((rd_T38 l (i : Int)).f0.f0, (rd_T38 l (i : Int)).f0.f1), ((rd_T38 l (i : Int)).f1.f0, (rd_T38 l (i : Int)).f1.f1)) :: (sgs l).drop (i + 1) := by
  unfold sgs
  rw [← List.map_drop, ← List.map_drop, rdG_drop h]
  rfl
/-- The segments of a line, as the program lays them. -/
def segL (l : List S36) : List S38 := (List.range (l.length - 1)).map fun j => ⟨⟨(rd_T36 l ((j : Nat) : Int)).f0, (rd_T36 l ((j : Nat) : Int)).f1⟩, ⟨(rd_T36 l ((j + 1 : Nat) : Int)).f0, (rd_T36 l ((j + 1 : Nat) : Int)).f1⟩⟩
theorem segL_length (l : List S36) : (segL l).length = l.length - 1 := by simp [segL]
theorem sgs_segL (l : List S36) : sgs (segL l) = segsOf (pts l) := by
  unfold sgs segL segsOf
  rw [List.map_map, pts_length]
  apply List.map_congr_left
  intro j _
  simp [at_pts]
theorem segL_take {l : List S36} {i : Nat} (h0 : 1 ≤ i) (h : i < l.length) : (segL l).take i = (segL l).take (i - 1) ++ [⟨⟨(rd_T36 l ((i - 1 : Nat) : Int)).f0, (rd_T36 l ((i - 1 : Nat) : Int)).f1⟩, ⟨(rd_T36 l (i : Int)).f0, (rd_T36 l (i : Int)).f1⟩⟩] := by
  obtain ⟨j, rfl⟩ : ∃ j, i = j + 1 := ⟨i - 1, by omega⟩
  rw [List.take_add_one]
  congr 1
  have hj : j < l.length - 1 := by omega
  simp [segL, hj]
theorem impl_InRange.eq (a b c : Int) : impl_InRange.f a b c = some (decide (b ≤ a ∧ a ≤ c)) := by
  unfold impl_InRange.f
  by_cases h : b ≤ a
  · rw [if_pos h]; simp [h]
  · rw [if_neg h]; simp [h]
theorem impl_IsPoint.eq (x y : Int) : impl_IsPoint.f x y = some (isPt x y) := isPt_bind x y (impl_InRange.eq ..) (impl_InRange.eq ..)
theorem impl_IsLine.l0_ok (l : List S36) (hn : l.length ≤ 140737488355328) : ∀ (d k i : Nat), i + d = l.length → d < k → impl_IsLine.l0 k l l (l.length : Int) (i : Int) = some (B (∀ j, i ≤ j → j < l.length → good (pts l) j)) := by
  intro d
  induction d with
  | zero =>
    intro k i hi hk
    obtain ⟨k, rfl⟩ : ∃ m, k = m + 1 := ⟨k - 1, by omega⟩
    simp only [impl_IsLine.l0]
    rw [if_neg (by omega), B_pos (fun j h1 h2 => by omega)]
  | succ d ih =>
    intro k i hi hk
    obtain ⟨k, rfl⟩ : ∃ m, k = m + 1 := ⟨k - 1, by omega⟩
    simp only [impl_IsLine.l0]
    rw [if_pos (by omega), if_pos (by omega), if_pos (by omega), impl_IsPoint.eq]
    simp only [Option.bind_some]
    have e1 := at_pts l i
    have step : good (pts l) i → impl_IsLine.l0 k l l (l.length : Int) (wrap64 ((i : Int) + 1)) = some (B (∀ j, i ≤ j → j < l.length → good (pts l) j)) := by
      intro g
      rw [w64_succ (n := l.length) (by omega) (by omega), ih k (i + 1) (by omega) (by omega)]
      congr 1
      exact B_congr (by rw [good_step g])
    have stop : ¬ good (pts l) i → B (∀ j, i ≤ j → j < l.length → good (pts l) j) = false := fun g => B_neg (fun x => g (x i (Nat.le_refl _) (by omega)))
    have g1 : good (pts l) i ↔ (isPt (rd_T36 l (i : Int)).f0 (rd_T36 l (i : Int)).f1 = true ∧ (0 < i → at_ (pts l) (i - 1) ≠ ((rd_T36 l (i : Int)).f0, (rd_T36 l (i : Int)).f1))) := by unfold good; rw [e1]
    by_cases hp : isPt (rd_T36 l (i : Int)).f0 (rd_T36 l (i : Int)).f1 = true
    · rw [if_pos hp]
      by_cases h0 : (i : Int) > 0
      · have e2 := at_pts l (i - 1)
        rw [if_pos h0, w64_pred (by omega) (by omega), if_pos (by omega), if_pos (by omega)]
        rw [e2] at g1
        by_cases hq : ((rd_T36 l (i : Int)).f0 == (rd_T36 l ((i - 1 : Nat) : Int)).f0 && (rd_T36 l (i : Int)).f1 == (rd_T36 l ((i - 1 : Nat) : Int)).f1) = true
        · rw [if_pos hq, stop (fun x => (g1.mp x).2 (by omega) (by simp only [Bool.and_eq_true, beq_iff_eq] at hq; rw [hq.1, hq.2]))]
        · rw [if_neg hq]
          exact step (g1.mpr ⟨hp, fun _ e => hq (by simp only [Prod.ext_iff] at e; simp [e.1, e.2])⟩)
      · rw [if_neg h0]
        exact step (g1.mpr ⟨hp, fun h => absurd h (by omega)⟩)
    · rw [if_neg hp, stop (fun x => hp (g1.mp x).1)]
theorem impl_IsLine.ok (l : List S36) (k : Nat) (hk : 12 ≤ k) : impl_IsLine.f k l = some (B (lineP (pts l))) := by
  unfold impl_IsLine.f
  obtain ⟨k, rfl⟩ : ∃ m, k = m + 1 := ⟨k - 1, by omega⟩
  by_cases h : (l.length : Int) < 2
  · rw [if_pos h, B_neg (fun x => by have := x.1; rw [pts_length] at this; omega)]
    simp [impl_IsLine.j0]
  · rw [if_neg h]
    by_cases h2 : (l.length : Int) > 10
    · rw [decide_eq_true h2, B_neg (fun x => by have := x.2.1; rw [pts_length] at this; omega)]
      simp [impl_IsLine.j0]
    · rw [decide_eq_false h2]
      simp only [impl_IsLine.j0]
      rw [if_neg (by simp), show (0 : Int) = ((0 : Nat) : Int) from rfl, impl_IsLine.l0_ok l (by omega) l.length k 0 (by omega) (by omega)]
      congr 1
      refine B_congr ?_
      unfold lineP
      rw [pts_length]
      exact ⟨fun h => ⟨by omega, by omega, fun j hj => h j (by omega) hj⟩, fun h j _ hj => h.2.2 j hj⟩
theorem impl_SegmentsOf.l0_ok (l : List S36) (hn : l.length ≤ 10) : ∀ (d k i : Nat), 1 ≤ i → i + d = l.length → d < k → impl_SegmentsOf.l0 k l ((segL l).take (i - 1)) (i : Int) = some (segL l) := by
  intro d
  induction d with
  | zero =>
    intro k i h1 hi hk
    obtain ⟨k, rfl⟩ : ∃ m, k = m + 1 := ⟨k - 1, by omega⟩
    simp only [impl_SegmentsOf.l0]
    rw [if_neg (by omega), List.take_of_length_le (by rw [segL_length]; omega)]
  | succ d ih =>
    intro k i h1 hi hk
    obtain ⟨k, rfl⟩ : ∃ m, k = m + 1 := ⟨k - 1, by omega⟩
    simp only [impl_SegmentsOf.l0]
    rw [if_pos (by omega), w64_pred (by omega) (by omega), if_pos (by omega), if_pos (by omega), if_pos (by omega), if_pos (by rw [List.length_take, segL_length]; omega), w64_succ (n := l.length) (by omega) (by omega), ← segL_take h1 (by omega)]
    exact ih k (i + 1) (by omega) (by omega) (by omega)
/-- The segments of a line, or none. -/
noncomputable def segI (l : List S36) : List S38 := if B (lineP (pts l)) = true then segL l else []
theorem segI_sgs (l : List S36) : sgs (segI l) = segs (pts l) := by
  unfold segs segI
  by_cases h : B (lineP (pts l)) = true
  · rw [if_pos h, if_pos h, sgs_segL]
  · rw [if_neg h, if_neg h]; rfl
theorem segI_length (l : List S36) : (segI l).length ≤ 9 := by
  unfold segI
  by_cases h : B (lineP (pts l)) = true
  · have := (B_iff.mp h).2.1
    rw [pts_length] at this
    rw [if_pos h, segL_length]; omega
  · rw [if_neg h]; simp
theorem impl_SegmentsOf.ok (l : List S36) (k : Nat) (hk : 12 ≤ k) : impl_SegmentsOf.f k l = some (segI l) := by
  unfold impl_SegmentsOf.f segI
  simp only [Option.bind_some]
  rw [impl_IsLine.ok l k hk]
  simp only [Option.bind_some]
  by_cases hl : lineP (pts l)
  · have h2 := hl.1
    have h3 := hl.2.1
    rw [pts_length] at h2 h3
    rw [B_pos hl, if_pos rfl, if_pos rfl]
    exact impl_SegmentsOf.l0_ok l (by omega) (l.length - 1) k 1 (by omega) (by omega) (by omega)
  · rw [B_neg hl, if_neg (by simp), if_neg (by simp)]
theorem impl_IsSegment.eq (a b c d : Int) : impl_IsSegment.f a b c d = some (isSg a b c d) := by
  unfold impl_IsSegment.f isSg
  rw [impl_IsPoint.eq, impl_IsPoint.eq]
  cases isPt a b <;> cases isPt c d <;> simp
theorem cmp_Compare_int.eq (a b : Int) : cmp_Compare_int.f a b = some (if a < b then -1 else if a > b then 1 else 0) := by
  unfold cmp_Compare_int.f cmp_isNaN_int.f
  simp
  split
  · rfl
  · split <;> rfl
theorem impl_cross.eq (a b c d e f : Int) : impl_cross.f a b c d e f = some (crossW a b c d e f) := rfl
theorem impl_SideOf.eq (k : Nat) (a b c d e f : Int) : impl_SideOf.f (k + 1) a b c d e f = some (sideOf a b c d e f) := by
  unfold impl_SideOf.f sideOf
  rw [impl_IsPoint.eq, impl_IsPoint.eq, impl_IsPoint.eq]
  cases isPt a b <;> cases isPt c d <;> cases isPt e f <;> simp [impl_SideOf.j0, impl_cross.eq, cmp_Compare_int.eq]
theorem impl_IsOn.eq (k : Nat) (a b c d e f : Int) : impl_IsOn.f (k + 1) a b c d e f = some (onW a b c d e f) := by
  rw [← onW_of (z := sideOf a b c d e f) side_zero]
  unfold impl_IsOn.f
  simp only [impl_IsSegment.eq, impl_IsPoint.eq, impl_SideOf.eq, impl_InRange.eq, Option.bind_some, mx, mn, mx_max, mn_min]
theorem impl_BeforePoint.eq (a b c d : Int) : impl_BeforePoint.f a b c d = some (decide (b < d ∨ (b = d ∧ a < c))) := by
  unfold impl_BeforePoint.f
  by_cases h : b < d
  · rw [if_pos h]; simp [h]
  · rw [if_neg h]
    by_cases h1 : b = d
    · rw [if_pos h1]; simp [h1]
    · rw [if_neg h1]; simp [h, h1]
theorem impl_forward.eq (a b c d : Int) : impl_forward.f a b c d = some ((lo (a, b) (c, d)).1, (lo (a, b) (c, d)).2, (hi (a, b) (c, d)).1, (hi (a, b) (c, d)).2) := by
  unfold impl_forward.f lo hi
  rw [impl_BeforePoint.eq]
  simp only [Option.bind_some]
  by_cases h : before (c, d) (a, b)
  · rw [if_pos (decide_eq_true (show d < b ∨ (d = b ∧ c < a) from h)), if_pos h, if_pos h]
    rfl
  · rw [if_neg (by rw [decide_eq_true_eq]; exact h), if_neg h, if_neg h]
theorem impl_HowMeet.j3_ok (k : Nat) (a b c d : Int) : impl_HowMeet.j3 (k + 1) a b c d = some (if before (c, d) (a, b) then 0 else if ((a, b) : Pt) = (c, d) then 1 else 3) := by
  simp only [impl_HowMeet.j3]
  rw [impl_BeforePoint.eq]
  simp only [Option.bind_some]
  by_cases h : before (c, d) (a, b)
  · rw [if_pos (decide_eq_true (show d < b ∨ (d = b ∧ c < a) from h)), if_pos h]
  · rw [if_neg (by rw [decide_eq_true_eq]; exact h), if_neg h, eq_pt]
    by_cases g : ((a, b) : Pt) = (c, d)
    · rw [if_pos (decide_eq_true g), if_pos g]
    · rw [if_neg (by rw [decide_eq_true_eq]; exact g), if_neg g]
theorem impl_HowMeet.j2_ok (k : Nat) (t0 t1 c d l0 l1 e f : Int) : impl_HowMeet.j2 (k + 2) t0 t1 c d l0 l1 e f =
    some (let high : Pt := if before (c, d) (e, f) then (c, d) else (e, f); if before high (l0, l1) then 0 else if ((l0, l1) : Pt) = high then 1 else 3) := by
  simp only [impl_HowMeet.j2]
  rw [impl_BeforePoint.eq]
  simp only [Option.bind_some]
  by_cases h : before (c, d) (e, f)
  · rw [if_pos (decide_eq_true (show d < f ∨ (d = f ∧ c < e) from h)), if_pos h, impl_HowMeet.j3_ok]
  · rw [if_neg (by rw [decide_eq_true_eq]; exact h), if_neg h, impl_HowMeet.j3_ok]
theorem impl_HowMeet.line_ok (k : Nat) (x y : Int) (a b c d e f g h : Int) : impl_HowMeet.j1 (k + 3) x y true a b c d e f g h = some (hmLine (a, b) (c, d) (e, f) (g, h)) := by
  simp only [impl_HowMeet.j1]
  rw [if_pos trivial, impl_forward.eq, impl_forward.eq]
  simp only [Option.bind_some]
  rw [impl_BeforePoint.eq, hmLine_lo]
  simp only [Option.bind_some]
  by_cases q : before (lo (a, b) (c, d)) (lo (e, f) (g, h))
  · rw [if_pos (decide_eq_true (show (lo (a, b) (c, d)).2 < (lo (e, f) (g, h)).2 ∨ ((lo (a, b) (c, d)).2 = (lo (e, f) (g, h)).2 ∧ (lo (a, b) (c, d)).1 < (lo (e, f) (g, h)).1) from q)), if_pos q, impl_HowMeet.j2_ok]
  · rw [if_neg (by rw [decide_eq_true_eq]; exact q), if_neg q, impl_HowMeet.j2_ok]
theorem impl_HowMeet.j4_ok (k : Nat) (t : Bool) (a b c d e f g h : Int) (hs : isSg a b c d = true) (ht : isSg e f g h = true) : impl_HowMeet.j4 (k + 2) t a b c d e f g h =
    some (if t = true then 2 else if on (a, b) (c, d) (e, f) ∨ on (a, b) (c, d) (g, h) ∨ on (e, f) (g, h) (a, b) ∨ on (e, f) (g, h) (c, d) then 1 else 0) := by
  obtain ⟨p0, p1, _⟩ := isSg_iff.mp hs
  obtain ⟨p2, p3, _⟩ := isSg_iff.mp ht
  simp only [impl_HowMeet.j4]
  by_cases h0 : t = true
  · rw [if_pos h0, if_pos h0]
  · rw [if_neg h0, if_neg h0, impl_IsOn.eq, impl_IsOn.eq, impl_IsOn.eq, impl_IsOn.eq, onW_on hs p2, onW_on hs p3, onW_on ht p0, onW_on ht p1]
    simp only [Option.bind_some, decide_eq_true_eq]
    by_cases h1 : on (a, b) (c, d) (e, f)
    · rw [if_pos h1, if_pos (Or.inl h1)]
    · by_cases h2 : on (a, b) (c, d) (g, h)
      · rw [if_neg h1, if_pos h2, if_pos (Or.inr (Or.inl h2))]
      · by_cases h3 : on (e, f) (g, h) (a, b)
        · rw [if_neg h1, if_neg h2, if_pos h3, if_pos (Or.inr (Or.inr (Or.inl h3)))]
        · by_cases h4 : on (e, f) (g, h) (c, d)
          · rw [if_neg h1, if_neg h2, if_neg h3, if_pos h4, if_pos (Or.inr (Or.inr (Or.inr h4)))]
          · rw [if_neg h1, if_neg h2, if_neg h3, if_neg h4, if_neg (by simp [h1, h2, h3, h4])]
theorem impl_HowMeet.ok (a b c d e f g h : Int) (k : Nat) (hk : 8 ≤ k) : impl_HowMeet.f k a b c d e f g h = some (hmS ((a, b), (c, d)) ((e, f), (g, h))) := by
  unfold impl_HowMeet.f
  obtain ⟨k, rfl⟩ : ∃ m, k = m + 8 := ⟨k - 8, by omega⟩
  rw [impl_IsSegment.eq, impl_IsSegment.eq]
  simp only [Option.bind_some]
  by_cases hs : isSg a b c d = true
  · by_cases ht : isSg e f g h = true
    · obtain ⟨p0, p1, n0⟩ := isSg_iff.mp hs
      obtain ⟨p2, p3, n1⟩ := isSg_iff.mp ht
      rw [if_pos hs, ht, hmS_ok hs ht]
      simp only [impl_HowMeet.j0]
      rw [if_neg (by simp), impl_SideOf.eq, impl_SideOf.eq, sideOf_sgn p0 p1 p2, sideOf_sgn p0 p1 p3]
      simp only [Option.bind_some]
      have cross : ¬ (cr (a, b) (c, d) (e, f) = 0 ∧ cr (a, b) (c, d) (g, h) = 0) → impl_HowMeet.j1 (k + 7) (sgn (cr (a, b) (c, d) (e, f))) (sgn (cr (a, b) (c, d) (g, h))) false a b c d e f g h = some (hm (a, b) (c, d) (e, f) (g, h)) := by
        intro hn
        simp only [impl_HowMeet.j1]
        rw [if_neg (by simp), sgn_prod, ← hm_cross n0 n1 hn]
        have hx := crossing_sgn (a, b) (c, d) (e, f) (g, h)
        by_cases q : sgn (cr (a, b) (c, d) (e, f)) * sgn (cr (a, b) (c, d) (g, h)) < 0
        · rw [if_pos q, impl_SideOf.eq, impl_SideOf.eq, sideOf_sgn p2 p3 p0, sideOf_sgn p2 p3 p1]
          simp only [Option.bind_some]
          rw [sgn_prod, impl_HowMeet.j4_ok _ _ _ _ _ _ _ _ _ _ hs ht]
          by_cases q2 : sgn (cr (e, f) (g, h) (a, b)) * sgn (cr (e, f) (g, h) (c, d)) < 0
          · rw [if_pos (decide_eq_true q2), if_pos (hx.mpr ⟨q, q2⟩)]
          · rw [if_neg (by rw [decide_eq_true_eq]; exact q2), if_neg (fun x => q2 (hx.mp x).2)]
        · rw [if_neg q, impl_HowMeet.j4_ok _ _ _ _ _ _ _ _ _ _ hs ht, if_neg (by simp), if_neg (fun x => q (hx.mp x).1)]
      by_cases z : cr (a, b) (c, d) (e, f) = 0
      · rw [if_pos (sgn_zero.mpr z)]
        by_cases z2 : cr (a, b) (c, d) (g, h) = 0
        · rw [show (sgn (cr (a, b) (c, d) (g, h)) == 0) = true by rw [beq_iff_eq]; exact sgn_zero.mpr z2, impl_HowMeet.line_ok, hm_line n0 n1 z z2]
        · rw [show (sgn (cr (a, b) (c, d) (g, h)) == 0) = false by rw [beq_eq_false_iff_ne]; exact fun x => z2 (sgn_zero.mp x)]
          exact cross (fun x => z2 x.2)
      · rw [if_neg (fun x => z (sgn_zero.mp x))]
        exact cross (fun x => z x.1)
    · rw [if_pos hs, hmS_not (fun x => ht x.2), show isSg e f g h = false by simpa using ht]
      simp [impl_HowMeet.j0]
  · rw [if_neg hs, hmS_not (fun x => hs x.1)]
    simp [impl_HowMeet.j0]
theorem impl_greatest.l1_ok (s t : List S38) (hn : s.length ≤ 10) (hm : t.length ≤ 10) (i : Nat) (hi : i < s.length) (R : Int → Int) (Kmin : Nat) (hR : ∀ m k, Kmin ≤ k → impl_greatest.l0 k t m s (s.length : Int) ((i + 1 : Nat) : Int) = some (R m)) (hK : 60 ≤ Kmin) :
    ∀ (d k j : Nat) (m : Int), j + d = t.length → Kmin + d + 1 ≤ k → impl_greatest.l1 k t m s (s.length : Int) (i : Int) t (t.length : Int) (j : Int) ((rd_T38 s (i : Int)).f0.f0) ((rd_T38 s (i : Int)).f0.f1) ((rd_T38 s (i : Int)).f1.f0) ((rd_T38 s (i : Int)).f1.f1) = some (R (rowMost m (sgAt (sgs s) i) ((sgs t).drop j))) := by
  intro d
  induction d with
  | zero =>
    intro k j m hj hk
    obtain ⟨k, rfl⟩ : ∃ m, k = m + 1 := ⟨k - 1, by omega⟩
    simp only [impl_greatest.l1]
    rw [if_neg (by omega), w64_succ (n := s.length) (by omega) (by omega), hR m k (by omega), List.drop_of_length_le (by rw [sgs_length]; omega)]
    rfl
  | succ d ih =>
    intro k j m hj hk
    obtain ⟨k, rfl⟩ : ∃ m, k = m + 1 := ⟨k - 1, by omega⟩
    simp only [impl_greatest.l1]
    rw [if_pos (by omega), if_pos (by omega), if_pos (by omega), impl_HowMeet.ok _ _ _ _ _ _ _ _ k (by omega)]
    simp only [Option.bind_some]
    rw [w64_succ (n := t.length) (by omega) (by omega), ih k (j + 1) _ (by omega) (by omega), sgs_drop (l := t) (i := j) (by omega), at_sgs s i]
    unfold mx
    rw [mx_max]
    rfl
theorem impl_greatest.ok (s t : List S38) (hn : s.length ≤ 10) (hm : t.length ≤ 10) : ∀ (d k i : Nat) (m : Int), i + d = s.length → 20 * d + 61 ≤ k → impl_greatest.l0 k t m s (s.length : Int) (i : Int) = some (most m ((sgs s).drop i) (sgs t)) := by
  intro d
  induction d with
  | zero =>
    intro k i m hi hk
    obtain ⟨k, rfl⟩ : ∃ m, k = m + 1 := ⟨k - 1, by omega⟩
    simp only [impl_greatest.l0]
    rw [if_neg (by omega), List.drop_of_length_le (by rw [sgs_length]; omega)]
    rfl
  | succ d ih =>
    intro k i m hi hk
    obtain ⟨k, rfl⟩ : ∃ m, k = m + 1 := ⟨k - 1, by omega⟩
    simp only [impl_greatest.l0]
    rw [if_pos (by omega), if_pos (by omega), if_pos (by omega), show (0 : Int) = ((0 : Nat) : Int) from rfl, impl_greatest.l1_ok s t hn hm i (by omega) (fun m => most m ((sgs s).drop (i + 1)) (sgs t)) (20 * d + 61) (fun m k hk => ih k (i + 1) m (by omega) hk) (by omega) t.length k 0 m (by omega) (by omega), sgs_drop (l := s) (i := i) (by omega), List.drop_zero, at_sgs s i]
    rfl
theorem impl_LinesMeet.ok (l m : List S36) (k : Nat) (hk : 400 ≤ k) : impl_LinesMeet.f k l m = some (linesMeet (pts l) (pts m)) := by
  unfold impl_LinesMeet.f impl_greatest.f
  rw [impl_SegmentsOf.ok l k (by omega), impl_SegmentsOf.ok m k (by omega)]
  simp only [Option.bind_some]
  have h1 := segI_length l
  have h2 := segI_length m
  have := impl_greatest.ok (segI l) (segI m) (by omega) (by omega) (segI l).length k 0 0 (by omega) (by omega)
  rw [segI_sgs, segI_sgs, List.drop_zero] at this
  rw [show (0 : Int) = ((0 : Nat) : Int) from rfl] at *
  rw [this]
  rfl
theorem laws_szPointS.eq (l : List S60) (n : Int) (hn : l.length ≤ 9223372036854775807) (h0 : 0 ≤ n) (h1 : n ≤ 1048576) : laws_szPointS.f l n = some (if n < (l.length : Int) then -1 else n - (l.length : Int)) := by
  unfold laws_szPointS.f
  rw [w64 (by omega) (by omega)]
  by_cases h : n < (l.length : Int)
  · rw [if_pos h, if_pos (by omega)]
  · rw [if_neg h, if_neg (by omega)]
/-- The program's points, out of the law's own. -/
def toP (l : List S60) : List S36 := l.map fun x => ⟨x.f0, x.f1⟩
theorem toP_length (l : List S60) : (toP l).length = l.length := by simp [toP]
theorem toP_get {l : List S60} {i : Nat} (h : i < l.length) : (toP l)[i]? = some ⟨(rd_T60 l (i : Int)).f0, (rd_T60 l (i : Int)).f1⟩ := by
  unfold toP rd_T60
  simp [List.getD_eq_getElem?_getD, h]
theorem laws_toPointS.l0_ok (x0 : List S60) (hn : x0.length ≤ 1048576) : ∀ (d k i : Nat) (out : List S36), i + d = x0.length → out.length = x0.length → out.take i = (toP x0).take i → d < k → laws_toPointS.l0 k x0 out (i : Int) = some (toP x0) := by
  intro d
  induction d with
  | zero =>
    intro k i out hi hl ht hk
    obtain ⟨k, rfl⟩ : ∃ m, k = m + 1 := ⟨k - 1, by omega⟩
    simp only [laws_toPointS.l0]
    rw [if_neg (by omega), take_all ht (by omega) (by rw [toP_length]; omega)]
  | succ d ih =>
    intro k i out hi hl ht hk
    obtain ⟨k, rfl⟩ : ∃ m, k = m + 1 := ⟨k - 1, by omega⟩
    simp only [laws_toPointS.l0, laws_toPoint.f]
    rw [if_pos (by omega), if_pos (by omega)]
    simp only [Option.bind_some]
    rw [if_pos (by omega), w64_succ (n := x0.length) (by omega) (by omega)]
    refine ih k (i + 1) _ (by omega) (by simpa using hl) ?_ (by omega)
    exact take_set_succ (by rw [toP_length]; omega) (by rw [toP_length]; omega) ht (toP_get (by omega))
theorem laws_toPointS.ok (l : List S60) (hn : l.length ≤ 1048576) (k : Nat) (hk : l.length < k) : laws_toPointS.f k l = some (toP l) := by
  unfold laws_toPointS.f
  rw [if_pos (by omega), if_pos (by omega)]
  exact laws_toPointS.l0_ok l (by omega) l.length k 0 _ (by omega) (by simp) (by simp) hk
theorem laws_eqPointS.l0_ok (x0 x1 : List S36) (hn : x0.length ≤ 140737488355328) (hl : x0.length = x1.length) : ∀ (d k i : Nat), i + d = x0.length → d < k → laws_eqPointS.l0 k x0 x1 (i : Int) = some (B (x0.drop i = x1.drop i)) := by
  intro d
  induction d with
  | zero =>
    intro k i hi hk
    obtain ⟨k, rfl⟩ : ∃ m, k = m + 1 := ⟨k - 1, by omega⟩
    simp only [laws_eqPointS.l0]
    rw [if_neg (by omega), List.drop_of_length_le (by omega), List.drop_of_length_le (by omega), B_pos rfl]
  | succ d ih =>
    intro k i hi hk
    obtain ⟨k, rfl⟩ : ∃ m, k = m + 1 := ⟨k - 1, by omega⟩
    simp only [laws_eqPointS.l0]
    rw [if_pos (by omega), if_pos (by omega), if_pos (by omega), rdP_drop (l := x0) (i := i) (by omega), rdP_drop (l := x1) (i := i) (by omega), w64_succ (n := x0.length) (by omega) (by omega), ih k (i + 1) (by omega) (by omega)]
    generalize rd_T36 x0 (i : Int) = a
    generalize rd_T36 x1 (i : Int) = b
    by_cases h0 : a.f0 = b.f0
    · by_cases h1 : a.f1 = b.f1
      · have e := pt_ext h0 h1
        subst e
        simp [laws_eqPoint.f]
      · rw [B_neg (P := a :: _ = b :: _) (fun e => h1 (by rw [(List.cons.inj e).1]))]
        simp [laws_eqPoint.f, h0, h1]
    · rw [B_neg (P := a :: _ = b :: _) (fun e => h0 (by rw [(List.cons.inj e).1]))]
      simp [laws_eqPoint.f, h0]
theorem laws_eqPointS.ok (a b : List S36) (hn : a.length ≤ 140737488355328) (k : Nat) (hk : a.length < k) : laws_eqPointS.f k a b = some (B (a = b)) := by
  unfold laws_eqPointS.f
  by_cases h : (a.length : Int) = (b.length : Int)
  · rw [if_pos h]
    exact laws_eqPointS.l0_ok a b hn (by omega) a.length k 0 (by omega) hk
  · rw [if_neg h, B_neg (fun e => h (by rw [e]))]
theorem laws_eqPointS.same (a : List S36) (hn : a.length ≤ 140737488355328) (k : Nat) (hk : a.length < k) : laws_eqPointS.f k a a = some true := by
  rw [laws_eqPointS.ok a a hn k hk, B_pos rfl]
theorem spec_l1In.eq (a b c : Int) : spec_l1In.f a b c = some (decide (b ≤ a ∧ a ≤ c)) := by
  unfold spec_l1In.f
  by_cases h : b ≤ a
  · rw [if_pos h]; simp [h]
  · rw [if_neg h]; simp [h]
theorem spec_IsPoint.eq (x y : Int) : spec_IsPoint.f x y = some (isPt x y) := isPt_bind x y (spec_l1In.eq ..) (spec_l1In.eq ..)
theorem spec_IsSegment.eq (a b c d : Int) : spec_IsSegment.f a b c d = some (isSg a b c d) := by
  unfold spec_IsSegment.f isSg
  rw [spec_IsPoint.eq, spec_IsPoint.eq]
  cases isPt a b <;> cases isPt c d <;> simp
theorem spec_Max.eq (a b : Int) : spec_Max.f a b = some (max a b) := by
  unfold spec_Max.f
  by_cases h : b > a
  · rw [if_pos h]; congr 1; omega
  · rw [if_neg h]; congr 1; omega
theorem spec_Min.eq (a b : Int) : spec_Min.f a b = some (min a b) := by
  unfold spec_Min.f
  by_cases h : b < a
  · rw [if_pos h]; congr 1; omega
  · rw [if_neg h]; congr 1; omega
theorem spec_l4Cross.eq (a b c d e f : Int) : spec_l4Cross.f a b c d e f = some (crossW a b c d e f) := rfl
theorem spec_IsOn.eq (a b c d e f : Int) : spec_IsOn.f a b c d e f = some (onW a b c d e f) := by
  rw [← onW_of (z := crossW a b c d e f) (fun _ _ => Iff.rfl)]
  unfold spec_IsOn.f
  simp only [spec_IsSegment.eq, spec_IsPoint.eq, spec_l4Cross.eq, spec_Min.eq, spec_Max.eq, spec_l1In.eq, Option.bind_some]
theorem spec_l5Shared.in_ok (ends : List S36) (i : Nat) (hi : i < ends.length) (h4 : ends.length ≤ 100) (x5 : List S36) (h5 : x5.length ≤ 100) (a b c d e f g h : Int) : ∀ (n m j : Nat) (fl : Bool), j + n = x5.length →
    spec_l5Shared.l1 (m + 1 + n) x5 ends (i : Int) fl (j : Int) a b c d e f g h =
      (if (fl && ((pts x5).drop j).all fun q => decide (q ≠ ((rd_T36 ends (i : Int)).f0, (rd_T36 ends (i : Int)).f1))) = true then spec_l5Shared.l0 m (x5 ++ [(⟨(rd_T36 ends (i : Int)).f0, (rd_T36 ends (i : Int)).f1⟩ : S36)]) ends ((i + 1 : Nat) : Int) a b c d e f g h else spec_l5Shared.l0 m x5 ends ((i + 1 : Nat) : Int) a b c d e f g h) := by
  intro n
  induction n with
  | zero =>
    intro m j fl hj
    simp only [Nat.add_zero, spec_l5Shared.l1]
    rw [if_neg (by omega), List.drop_of_length_le (by rw [pts_length]; omega), w64_succ (n := ends.length) hi (by omega)]
    simp only [List.all_nil, Bool.and_true]
    by_cases hf : fl = true
    · rw [if_pos hf, if_pos hf, if_pos (by omega), if_pos (by omega), if_pos (by omega)]
    · rw [if_neg hf, if_neg hf]
  | succ n ih =>
    intro m j fl hj
    have hd : (pts x5).drop j = ((rd_T36 x5 (j : Int)).f0, (rd_T36 x5 (j : Int)).f1) :: (pts x5).drop (j + 1) := by
      unfold pts
      rw [← List.map_drop, ← List.map_drop, rdP_drop (show j < x5.length by omega)]
      rfl
    rw [show m + 1 + (n + 1) = (m + 1 + n) + 1 by omega]
    simp only [spec_l5Shared.l1]
    rw [if_pos (by omega), hd, w64_succ (n := x5.length) (by omega) (by omega)]
    by_cases hf : fl = true
    · rw [if_pos hf, if_pos (by omega), if_pos (by omega), if_pos (by omega), ih m (j + 1) _ (by omega), ne_pt, hf]
      simp only [List.all_cons, Bool.true_and]
    · have hf : fl = false := by simpa using hf
      rw [if_neg (by rw [hf]; simp), ih m (j + 1) _ (by omega), hf]
      simp
theorem spec_l5Shared.out_ok (ends : List S36) (i : Nat) (hi : i < 4) (h4 : ends.length = 4) (x5 : List S36) (h5 : x5.length ≤ 100) (a b c d e f g h : Int) (fl : Bool) (hfl : fl = if i < 2 then onW e f g h (rd_T36 ends (i : Int)).f0 (rd_T36 ends (i : Int)).f1 else onW a b c d (rd_T36 ends (i : Int)).f0 (rd_T36 ends (i : Int)).f1) (k : Nat) (hk : x5.length + 4 ≤ k) :
    ∃ m, m + x5.length + 3 = k ∧ spec_l5Shared.l0 k x5 ends (i : Int) a b c d e f g h =
      (if (fl && (pts x5).all fun q => decide (q ≠ ((rd_T36 ends (i : Int)).f0, (rd_T36 ends (i : Int)).f1))) = true then spec_l5Shared.l0 m (x5 ++ [(⟨(rd_T36 ends (i : Int)).f0, (rd_T36 ends (i : Int)).f1⟩ : S36)]) ends ((i + 1 : Nat) : Int) a b c d e f g h else spec_l5Shared.l0 m x5 ends ((i + 1 : Nat) : Int) a b c d e f g h) := by
  obtain ⟨m, rfl⟩ : ∃ m, k = (m + 1 + x5.length) + 1 + 1 := ⟨k - 3 - x5.length, by omega⟩
  refine ⟨m, by omega, ?_⟩
  have key := spec_l5Shared.in_ok ends i (by omega) (by omega) x5 h5 a b c d e f g h x5.length m 0 fl (by omega)
  rw [List.drop_zero] at key
  have j1 : spec_l5Shared.j1 (m + 1 + x5.length + 1) x5 ends (i : Int) fl a b c d e f g h = spec_l5Shared.l1 (m + 1 + x5.length) x5 ends (i : Int) fl ((0 : Nat) : Int) a b c d e f g h := rfl
  rw [← key, ← j1]
  simp only [spec_l5Shared.l0]
  rw [if_pos (by omega)]
  by_cases h2 : i < 2
  · rw [if_pos h2] at hfl
    rw [if_pos (by omega), if_pos (by omega), if_pos (by omega), spec_IsOn.eq, ← hfl]
    simp only [Option.bind_some]
    by_cases hf : fl = true
    · rw [if_pos hf, hf]
    · have hf : fl = false := by simpa using hf
      rw [if_neg (by rw [hf]; simp), if_neg (by omega), hf]
  · rw [if_neg h2] at hfl
    rw [if_neg (by omega), if_pos (by omega), if_pos (by omega), if_pos (by omega), spec_IsOn.eq, ← hfl]
    rfl
theorem spec_l5Shared.ok (a b c d e f g h : Int) (hs : isSg a b c d = true) (ht : isSg e f g h = true) (k : Nat) (hk : 40 ≤ k) : spec_l5Shared.f k a b c d e f g h = some (shared (a, b) (c, d) (e, f) (g, h)) := by
  obtain ⟨p0, p1, _⟩ := isSg_iff.mp hs
  obtain ⟨p2, p3, n1⟩ := isSg_iff.mp ht
  unfold spec_l5Shared.f
  generalize hE : ([(⟨a, b⟩ : S36), (⟨c, d⟩ : S36), (⟨e, f⟩ : S36), (⟨g, h⟩ : S36)] : List S36) = E
  have hl : E.length = 4 := by rw [← hE]; rfl
  have r0 : rd_T36 E ((0 : Nat) : Int) = ⟨a, b⟩ := by rw [← hE]; rfl
  have r1 : rd_T36 E ((1 : Nat) : Int) = ⟨c, d⟩ := by rw [← hE]; rfl
  have r2 : rd_T36 E ((2 : Nat) : Int) = ⟨e, f⟩ := by rw [← hE]; rfl
  have r3 : rd_T36 E ((3 : Nat) : Int) = ⟨g, h⟩ := by rw [← hE]; rfl
  have papp : ∀ (x : List S36) (y : S36), pts (x ++ [y]) = pts x ++ [(y.f0, y.f1)] := fun x y => by simp [pts]
  have P4 : ∀ (x : List S36) (k : Nat), 1 ≤ k → spec_l5Shared.l0 k x E ((4 : Nat) : Int) a b c d e f g h = some (cntL [] (pts x)) := by
    intro x k hk
    obtain ⟨k, rfl⟩ : ∃ m, k = m + 1 := ⟨k - 1, by omega⟩
    simp only [spec_l5Shared.l0]
    rw [if_neg (by omega)]
    simp [cntL, pts]
  have P3 : ∀ (x : List S36) (k : Nat), x.length ≤ 3 → 10 ≤ k → spec_l5Shared.l0 k x E ((3 : Nat) : Int) a b c d e f g h = some (cntL [(decide (on (a, b) (c, d) (g, h)), (g, h))] (pts x)) := by
    intro x k hx hk
    obtain ⟨m, hm, e1⟩ := spec_l5Shared.out_ok E 3 (by omega) hl x (by omega) a b c d e f g h (decide (on (a, b) (c, d) (g, h))) (by rw [if_neg (by omega), r3]; exact (onW_on hs p3).symm) k (by omega)
    rw [r3] at e1
    simp only at e1
    rw [e1, P4 _ m (by omega), P4 _ m (by omega), papp]
    simp only [cntL]
    split <;> rfl
  have P2 : ∀ (x : List S36) (k : Nat), x.length ≤ 2 → 16 ≤ k → spec_l5Shared.l0 k x E ((2 : Nat) : Int) a b c d e f g h = some (cntL [(decide (on (a, b) (c, d) (e, f)), (e, f)), (decide (on (a, b) (c, d) (g, h)), (g, h))] (pts x)) := by
    intro x k hx hk
    obtain ⟨m, hm, e1⟩ := spec_l5Shared.out_ok E 2 (by omega) hl x (by omega) a b c d e f g h (decide (on (a, b) (c, d) (e, f))) (by rw [if_neg (by omega), r2]; exact (onW_on hs p2).symm) k (by omega)
    rw [r2] at e1
    simp only at e1
    rw [e1, P3 _ m (by simp; omega) (by omega), P3 _ m (by omega) (by omega), papp, cntL_ite (decide (on (a, b) (c, d) (e, f))) (e, f)]
    split <;> rfl
  have P1 : ∀ (x : List S36) (k : Nat), x.length ≤ 1 → 22 ≤ k → spec_l5Shared.l0 k x E ((1 : Nat) : Int) a b c d e f g h = some (cntL [(decide (on (e, f) (g, h) (c, d)), (c, d)), (decide (on (a, b) (c, d) (e, f)), (e, f)), (decide (on (a, b) (c, d) (g, h)), (g, h))] (pts x)) := by
    intro x k hx hk
    obtain ⟨m, hm, e1⟩ := spec_l5Shared.out_ok E 1 (by omega) hl x (by omega) a b c d e f g h (decide (on (e, f) (g, h) (c, d))) (by rw [if_pos (by omega), r1]; exact (onW_on ht p1).symm) k (by omega)
    rw [r1] at e1
    simp only at e1
    rw [e1, P2 _ m (by simp; omega) (by omega), P2 _ m (by omega) (by omega), papp, cntL_ite (decide (on (e, f) (g, h) (c, d))) (c, d)]
    split <;> rfl
  obtain ⟨m, hm, e1⟩ := spec_l5Shared.out_ok E 0 (by omega) hl [] (by simp) a b c d e f g h (decide (on (e, f) (g, h) (a, b))) (by rw [if_pos (by omega), r0]; exact (onW_on ht p0).symm) k (by simp; omega)
  rw [r0] at e1
  simp only at e1
  simp only [List.length_nil] at hm
  have pn : pts ([] : List S36) = [] := rfl
  rw [pn] at e1
  rw [← cntL_shared n1]
  refine Eq.trans e1 ?_
  rw [P1 _ m (by simp) (by omega), P1 _ m (by simp) (by omega), papp, pn, cntL_ite (decide (on (e, f) (g, h) (a, b))) (a, b)]
  split <;> rfl
theorem spec_SideOf.eq (k : Nat) (a b c d e f : Int) : spec_SideOf.f (k + 1) a b c d e f = some (sideOf a b c d e f) := by
  unfold spec_SideOf.f sideOf
  rw [spec_IsPoint.eq, spec_IsPoint.eq, spec_IsPoint.eq]
  cases isPt a b <;> cases isPt c d <;> cases isPt e f <;> simp [spec_SideOf.j0, spec_l4Cross.eq]
  generalize crossW a b c d e f = z
  by_cases h : 0 < z
  · rw [if_pos h, if_neg (by omega), if_pos h]
  · rw [if_neg h]
    by_cases h2 : z < 0
    · rw [if_pos h2, if_pos h2]
    · rw [if_neg h2, if_neg h2, if_neg h]
theorem spec_HowMeet.ok (a b c d e f g h : Int) (k : Nat) (hk : 50 ≤ k) : spec_HowMeet.f k a b c d e f g h = some (hmS ((a, b), (c, d)) ((e, f), (g, h))) := by
  unfold spec_HowMeet.f
  obtain ⟨k, rfl⟩ : ∃ m, k = m + 3 := ⟨k - 3, by omega⟩
  rw [spec_IsSegment.eq, spec_IsSegment.eq]
  simp only [Option.bind_some]
  by_cases hs : isSg a b c d = true
  · by_cases ht : isSg e f g h = true
    · obtain ⟨p0, p1, n0⟩ := isSg_iff.mp hs
      obtain ⟨p2, p3, n1⟩ := isSg_iff.mp ht
      rw [if_pos hs, ht, hmS_ok hs ht]
      have t1 : ∀ k, spec_HowMeet.j1 (k + 1) true a b c d e f g h = some 0 := fun k => by simp [spec_HowMeet.j1]
      have main : spec_HowMeet.j1 (k + 2) false a b c d e f g h = some (hm (a, b) (c, d) (e, f) (g, h)) := by
        simp only [spec_HowMeet.j1]
        rw [if_neg (by simp), spec_l5Shared.ok a b c d e f g h hs ht _ (by omega)]
        simp only [Option.bind_some]
        unfold hm
        by_cases q : shared (a, b) (c, d) (e, f) (g, h) = 0
        · rw [if_pos q, if_pos q, spec_SideOf.eq, spec_SideOf.eq, sideOf_sgn p0 p1 p2, sideOf_sgn p0 p1 p3]
          simp only [Option.bind_some]
          rw [sgn_prod]
          have hx := crossing_sgn (a, b) (c, d) (e, f) (g, h)
          by_cases q1 : sgn (cr (a, b) (c, d) (e, f)) * sgn (cr (a, b) (c, d) (g, h)) < 0
          · rw [if_pos q1, spec_SideOf.eq, spec_SideOf.eq, sideOf_sgn p2 p3 p0, sideOf_sgn p2 p3 p1]
            simp only [Option.bind_some]
            rw [sgn_prod]
            by_cases q2 : sgn (cr (e, f) (g, h) (a, b)) * sgn (cr (e, f) (g, h) (c, d)) < 0
            · rw [if_pos q2, if_pos (hx.mpr ⟨q1, q2⟩)]
            · rw [if_neg q2, if_neg (fun x => q2 (hx.mp x).2)]
          · rw [if_neg q1, if_neg (fun x => q1 (hx.mp x).1)]
        · rw [if_neg q, if_neg q]
          by_cases q2 : shared (a, b) (c, d) (e, f) (g, h) = 1
          · rw [if_pos q2, if_pos q2]
          · rw [if_neg q2, if_neg q2]
      have far : Geo.apart (a, b) (c, d) (e, f) (g, h) → hm (a, b) (c, d) (e, f) (g, h) = 0 := hm_apart
      simp only [Bool.not_true, spec_HowMeet.j0]
      rw [if_neg (by simp), spec_Max.eq, spec_Max.eq, spec_Max.eq, spec_Max.eq, spec_Min.eq, spec_Min.eq, spec_Min.eq, spec_Min.eq]
      simp only [Option.bind_some]
      unfold Geo.apart at far
      simp only at far
      by_cases g0 : max a c < min e g
      · rw [if_pos g0, t1, far (Or.inl g0)]
      · rw [if_neg g0]
        by_cases g1 : max e g < min a c
        · rw [if_pos g1, t1, far (Or.inr (Or.inl g1))]
        · rw [if_neg g1]
          by_cases g2 : max b d < min f h
          · rw [if_pos g2, t1, far (Or.inr (Or.inr (Or.inl g2)))]
          · rw [if_neg g2]
            by_cases g3 : max f h < min b d
            · rw [decide_eq_true g3, t1, far (Or.inr (Or.inr (Or.inr g3)))]
            · rw [decide_eq_false g3]; exact main
    · rw [if_pos hs, hmS_not (fun x => ht x.2), show isSg e f g h = false by simpa using ht]
      simp [spec_HowMeet.j0]
  · rw [if_neg hs, hmS_not (fun x => hs x.1)]
    simp [spec_HowMeet.j0]
theorem spec_IsLine.l0_ok (l : List S36) (hn : l.length ≤ 140737488355328) : ∀ (d k i : Nat), i + d = l.length → d < k → spec_IsLine.l0 k l (i : Int) = some (B ((2 ≤ l.length ∧ l.length ≤ 10) ∧ ∀ j, i ≤ j → j < l.length → good (pts l) j)) := by
  intro d
  induction d with
  | zero =>
    intro k i hi hk
    obtain ⟨k, rfl⟩ : ∃ m, k = m + 1 := ⟨k - 1, by omega⟩
    simp only [spec_IsLine.l0]
    rw [if_neg (by omega), spec_l1In.eq]
    simp only [Option.bind_some]
    by_cases h : 2 ≤ l.length ∧ l.length ≤ 10
    · rw [B_pos ⟨h, fun j h1 h2 => by omega⟩, decide_eq_true (by omega)]
    · rw [B_neg (fun x => h x.1), decide_eq_false (by omega)]
  | succ d ih =>
    intro k i hi hk
    obtain ⟨k, rfl⟩ : ∃ m, k = m + 1 := ⟨k - 1, by omega⟩
    simp only [spec_IsLine.l0]
    rw [if_pos (by omega), if_pos (by omega), spec_IsPoint.eq]
    simp only [Option.bind_some]
    have e1 := at_pts l i
    have step : good (pts l) i → spec_IsLine.l0 k l (wrap64 ((i : Int) + 1)) = some (B ((2 ≤ l.length ∧ l.length ≤ 10) ∧ ∀ j, i ≤ j → j < l.length → good (pts l) j)) := by
      intro g
      rw [w64_succ (n := l.length) (by omega) (by omega), ih k (i + 1) (by omega) (by omega)]
      congr 1
      exact B_congr (by rw [good_step g])
    have stop : ¬ good (pts l) i → B ((2 ≤ l.length ∧ l.length ≤ 10) ∧ ∀ j, i ≤ j → j < l.length → good (pts l) j) = false := fun g => B_neg (fun x => g (x.2 i (Nat.le_refl _) (by omega)))
    have g1 : good (pts l) i ↔ (isPt (rd_T36 l (i : Int)).f0 (rd_T36 l (i : Int)).f1 = true ∧ (0 < i → at_ (pts l) (i - 1) ≠ ((rd_T36 l (i : Int)).f0, (rd_T36 l (i : Int)).f1))) := by unfold good; rw [e1]
    by_cases hp : isPt (rd_T36 l (i : Int)).f0 (rd_T36 l (i : Int)).f1 = true
    · rw [if_pos hp]
      by_cases h0 : (i : Int) > 0
      · have e2 := at_pts l (i - 1)
        rw [if_pos h0, w64_pred (by omega) (by omega), if_pos (by omega), if_pos (by omega)]
        rw [e2] at g1
        by_cases hq : ((rd_T36 l ((i - 1 : Nat) : Int)).f0 == (rd_T36 l (i : Int)).f0 && (rd_T36 l ((i - 1 : Nat) : Int)).f1 == (rd_T36 l (i : Int)).f1) = true
        · rw [if_pos hq, stop (fun x => (g1.mp x).2 (by omega) (by simpa [Prod.ext_iff] using hq))]
        · rw [if_neg hq]
          exact step (g1.mpr ⟨hp, fun _ e => hq (by simpa [Prod.ext_iff] using e)⟩)
      · rw [if_neg h0]
        exact step (g1.mpr ⟨hp, fun h => absurd h (by omega)⟩)
    · rw [if_neg hp, stop (fun x => hp (g1.mp x).1)]
theorem spec_IsLine.ok (l : List S36) (hn : l.length ≤ 140737488355328) (k : Nat) (hk : l.length < k) : spec_IsLine.f k l = some (B (lineP (pts l))) := by
  unfold spec_IsLine.f
  rw [show (0 : Int) = ((0 : Nat) : Int) from rfl, spec_IsLine.l0_ok l hn l.length k 0 (by omega) hk]
  congr 1
  refine B_congr ?_
  unfold lineP
  rw [pts_length]
  exact ⟨fun h => ⟨h.1.1, h.1.2, fun j hj => h.2 j (by omega) hj⟩, fun h => ⟨⟨h.1, h.2.1⟩, fun j _ hj => h.2.2 j hj⟩⟩
theorem spec_SegmentsOf.l0_ok (l : List S36) (hn : l.length ≤ 1048576) (hl : lineP (pts l)) : ∀ (d k i : Nat), 1 ≤ i → i + d = l.length → l.length + d + 1 < k → spec_SegmentsOf.l0 k l ((segL l).take (i - 1)) (i : Int) = some (segL l) := by
  intro d
  induction d with
  | zero =>
    intro k i h1 hi hk
    obtain ⟨k, rfl⟩ : ∃ m, k = m + 1 := ⟨k - 1, by omega⟩
    simp only [spec_SegmentsOf.l0]
    rw [if_neg (by omega), List.take_of_length_le (by rw [segL_length]; omega)]
  | succ d ih =>
    intro k i h1 hi hk
    obtain ⟨k, rfl⟩ : ∃ m, k = m + 1 := ⟨k - 1, by omega⟩
    simp only [spec_SegmentsOf.l0]
    rw [if_pos (by omega), spec_IsLine.ok l (by omega) k (by omega), B_pos hl]
    simp only [Option.bind_some, if_true]
    rw [w64_pred (by omega) (by omega), if_pos (by omega), if_pos (by omega), if_pos (by omega), if_pos (by rw [List.length_take, segL_length]; omega), w64_succ (n := l.length) (by omega) (by omega), ← segL_take h1 (by omega)]
    exact ih k (i + 1) (by omega) (by omega) (by omega)
theorem spec_SegmentsOf.ok (l : List S36) (hn : l.length ≤ 1048576) (k : Nat) (hk : 2 * l.length + 4 < k) : spec_SegmentsOf.f k l = some (if B (lineP (pts l)) = true then segL l else []) := by
  unfold spec_SegmentsOf.f
  by_cases hl : lineP (pts l)
  · have h2 := hl.1
    rw [pts_length] at h2
    rw [B_pos hl, if_pos rfl]
    exact spec_SegmentsOf.l0_ok l hn hl (l.length - 1) k 1 (by omega) (by omega) (by omega)
  · obtain ⟨k, rfl⟩ : ∃ m, k = m + 1 := ⟨k - 1, by omega⟩
    rw [B_neg hl, if_neg (by simp)]
    simp only [spec_SegmentsOf.l0]
    by_cases h : (1 : Int) < (l.length : Int)
    · rw [if_pos h, spec_IsLine.ok l (by omega) k (by omega), B_neg hl]
      rfl
    · rw [if_neg h]
theorem spec_SegmentsOf.sgs (l : List S36) : sgs (if B (lineP (pts l)) = true then segL l else []) = segs (pts l) := by
  unfold segs
  by_cases h : B (lineP (pts l)) = true
  · rw [if_pos h, if_pos h, sgs_segL]
  · rw [if_neg h, if_neg h]; rfl
theorem spec_LinesMeet.l1_ok (s t : List S38) (hn : s.length ≤ 10) (hm : t.length ≤ 10) (i : Nat) (hi : i < s.length) (R : Int → Int) (Kmin : Nat) (hR : ∀ m k, Kmin ≤ k → spec_LinesMeet.l0 k m s t ((i + 1 : Nat) : Int) = some (R m)) (hK : 60 ≤ Kmin) :
    ∀ (d k j : Nat) (m : Int), j + d = t.length → Kmin + d + 1 ≤ k → spec_LinesMeet.l1 k m s t (i : Int) (j : Int) = some (R (rowMost m (sgAt (sgs s) i) ((sgs t).drop j))) := by
  intro d
  induction d with
  | zero =>
    intro k j m hj hk
    obtain ⟨k, rfl⟩ : ∃ m, k = m + 1 := ⟨k - 1, by omega⟩
    simp only [spec_LinesMeet.l1]
    rw [if_neg (by omega), w64_succ (n := s.length) (by omega) (by omega), hR m k (by omega), List.drop_of_length_le (by rw [sgs_length]; omega)]
    rfl
  | succ d ih =>
    intro k j m hj hk
    obtain ⟨k, rfl⟩ : ∃ m, k = m + 1 := ⟨k - 1, by omega⟩
    simp only [spec_LinesMeet.l1]
    rw [if_pos (by omega), if_pos (by omega), if_pos (by omega), if_pos (by omega), spec_HowMeet.ok _ _ _ _ _ _ _ _ k (by omega)]
    simp only [Option.bind_some]
    rw [spec_Max.eq]
    simp only [Option.bind_some]
    rw [w64_succ (n := t.length) (by omega) (by omega), ih k (j + 1) _ (by omega) (by omega), sgs_drop (l := t) (i := j) (by omega), at_sgs s i]
    rfl
theorem spec_LinesMeet.l0_ok (s t : List S38) (hn : s.length ≤ 10) (hm : t.length ≤ 10) : ∀ (d k i : Nat) (m : Int), i + d = s.length → 20 * d + 61 ≤ k → spec_LinesMeet.l0 k m s t (i : Int) = some (most m ((sgs s).drop i) (sgs t)) := by
  intro d
  induction d with
  | zero =>
    intro k i m hi hk
    obtain ⟨k, rfl⟩ : ∃ m, k = m + 1 := ⟨k - 1, by omega⟩
    simp only [spec_LinesMeet.l0]
    rw [if_neg (by omega), List.drop_of_length_le (by rw [sgs_length]; omega)]
    rfl
  | succ d ih =>
    intro k i m hi hk
    obtain ⟨k, rfl⟩ : ∃ m, k = m + 1 := ⟨k - 1, by omega⟩
    simp only [spec_LinesMeet.l0]
    rw [if_pos (by omega), show (0 : Int) = ((0 : Nat) : Int) from rfl, spec_LinesMeet.l1_ok s t hn hm i (by omega) (fun m => most m ((sgs s).drop (i + 1)) (sgs t)) (20 * d + 61) (fun m k hk => ih k (i + 1) m (by omega) hk) (by omega) t.length k 0 m (by omega) (by omega), sgs_drop (l := s) (i := i) (by omega), List.drop_zero, at_sgs s i]
    rfl
/-- The segments of a line as the reference lays them, or none. -/
noncomputable def segJ (l : List S36) : List S38 := if B (lineP (pts l)) = true then segL l else []
theorem segJ_length (l : List S36) : (segJ l).length ≤ 9 := by
  unfold segJ
  by_cases h : B (lineP (pts l)) = true
  · have := (B_iff.mp h).2.1
    rw [pts_length] at this
    rw [if_pos h, segL_length]; omega
  · rw [if_neg h]; simp
theorem segJ_sgs (l : List S36) : sgs (segJ l) = segs (pts l) := spec_SegmentsOf.sgs l
theorem spec_LinesMeet.ok (l m : List S36) (hn : l.length ≤ 1048576) (hm : m.length ≤ 1048576) (k : Nat) (hk : 2 * l.length + 2 * m.length + 400 ≤ k) : spec_LinesMeet.f k l m = some (linesMeet (pts l) (pts m)) := by
  unfold spec_LinesMeet.f
  rw [spec_SegmentsOf.ok l hn k (by omega), spec_SegmentsOf.ok m hm k (by omega)]
  simp only [Option.bind_some]
  have h1 := segJ_length l
  have h2 := segJ_length m
  have := spec_LinesMeet.l0_ok (segJ l) (segJ m) (by omega) (by omega) (segJ l).length k 0 0 (by omega) (by omega)
  rw [segJ_sgs, segJ_sgs, List.drop_zero] at this
  exact this
theorem FnExactLinesMeet (l m : List S60) (hn : l.length ≤ 9223372036854775807) (hm : m.length ≤ 9223372036854775807) : ∃ k, laws_FnExactLinesMeet.f k l m = some true := by
  refine ⟨2 * l.length + 2 * m.length + 500, ?_⟩
  unfold laws_FnExactLinesMeet.f
  rw [laws_szPointS.eq l 1048576 hn (by omega) (by omega)]
  by_cases h : (1048576 : Int) < (l.length : Int)
  · rw [if_pos h]; rfl
  · rw [if_neg h]
    simp only [Option.bind_some]
    rw [if_neg (by omega), laws_szPointS.eq m _ hm (by omega) (by omega)]
    by_cases h2 : (1048576 : Int) - (l.length : Int) < (m.length : Int)
    · rw [if_pos h2]; rfl
    · rw [if_neg h2]
      have hp := toP_length l
      have hq := toP_length m
      simp only [Option.bind_some]
      rw [if_neg (by omega), laws_toPointS.ok l (by omega) _ (by omega), laws_toPointS.ok m (by omega) _ (by omega)]
      simp only [Option.bind_some]
      rw [spec_LinesMeet.ok _ _ (by omega) (by omega) _ (by omega), impl_LinesMeet.ok _ _ _ (by omega)]
      simp only [Option.bind_some]
      rw [laws_eqPointS.same (toP l) (by omega) _ (by omega), laws_eqPointS.same (toP m) (by omega) _ (by omega)]
      simp

end Go.Proofs.Ytomkdfpcckgajaa.Pure
