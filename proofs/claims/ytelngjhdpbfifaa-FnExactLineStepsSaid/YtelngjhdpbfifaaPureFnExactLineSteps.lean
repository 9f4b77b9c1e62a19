/- The program's LineSteps answers as the reference's and leaves the slice as it was, for every slice of points. -/
import Derived.Test.YtelngjhdpbfifaaPFnExactLineStepsx7
import Derived.Test.YtelngjhdpbfifaaBase
import Derived.Test.YtelngjhdpbfifaaGeo
import Derived.Test.YtelngjhdpbfifaaLn
import Derived.Test.YtelngjhdpbfifaaLst
namespace Go.Proofs.Ytelngjhdpbfifaa.Pure
open Go Go.RowKit Go.Proofs.Ytelngjhdpbfifaa.PFnExactLineSteps Go.Proofs.YtelngjhdpbfifaaW.PrintWords Go.Proofs.YtelngjhdpbfifaaW.PrintLast Go.Proofs.YtelngjhdpbfifaaW.PrintMore Go.Proofs.Ytelngjhdpbfifaa.Base Go.Proofs.Ytelngjhdpbfifaa.Geo Go.Proofs.Ytelngjhdpbfifaa.Ln Go.Proofs.Ytelngjhdpbfifaa.Lst
set_option linter.unusedVariables false
set_option linter.unusedSimpArgs false
def pts (l : List S50) : List Pt := l.map fun x => (x.f0, x.f1)
theorem pts_length (l : List S50) : (pts l).length = l.length := by simp [pts]
theorem at_pts (l : List S50) (i : Nat) : at_ (pts l) i = ((rd_T50 l (i : Int)).f0, (rd_T50 l (i : Int)).f1) := by
  unfold at_ pts rd_T50
  simp only [List.getD_eq_getElem?_getD, List.getElem?_map, Int.toNat_natCast]
  cases l[i]? <;> rfl
theorem rdP_get {l : List S50} {i : Nat} (h : i < l.length) : l[i]? = some (rd_T50 l (i : Int)) := by
  unfold rd_T50
  simp [List.getD_eq_getElem?_getD, h]
theorem rdP_drop {l : List S50} {i : Nat} (h : i < l.length) : l.drop i = rd_T50 l (i : Int) :: l.drop (i + 1) := by
  have e := rdP_get h
  rw [List.getElem?_eq_getElem h] at e
  rw [List.drop_eq_getElem_cons h, Option.some.inj e]
theorem pt_eta (x : S50) : (⟨x.f0, x.f1⟩ : S50) = x := rfl
theorem pt_ext {x y : S50} (h0 : x.f0 = y.f0) (h1 : x.f1 = y.f1) : x = y := by cases x; cases y; simp_all
theorem w64_pred {i : Nat} (h0 : 0 < i) (hn : i ≤ 140737488355328) : wrap64 ((i : Int) - 1) = ((i - 1 : Nat) : Int) := by
  rw [w64 (by omega) (by omega)]; omega
def sgs (l : List S88) : List Sg := l.map fun x => ((x.f0.f0, x.f0.f1), (x.f1.f0, x.f1.f1))
theorem sgs_length (l : List S88) : (sgs l).length = l.length := by simp [sgs]
theorem at_sgs (l : List S88) (i : Nat) : sgAt (sgs l) i = (((rd_T88 l (i : Int)).f0.f0, (rd_T88 l (i : Int)).f0.f1), ((rd_T88 l (i : Int)).f1.f0, (rd_T88 l (i : Int)).f1.f1)) := by
  unfold sgAt sgs rd_T88
  simp only [List.getD_eq_getElem?_getD, List.getElem?_map, Int.toNat_natCast]
  cases l[i]? <;> rfl
theorem rdG_get {l : List S88} {i : Nat} (h : i < l.length) : l[i]? = some (rd_T88 l (i : Int)) := by
  unfold rd_T88
  simp [List.getD_eq_getElem?_getD, h]
theorem rdG_drop {l : List S88} {i : Nat} (h : i < l.length) : l.drop i = rd_T88 l (i : Int) :: l.drop (i + 1) := by
  have e := rdG_get h
  rw [List.getElem?_eq_getElem h] at e
  rw [List.drop_eq_getElem_cons h, Option.some.inj e]
theorem sgs_drop {l : List S88} {i : Nat} (h : i < l.length) : (sgs l).drop i = (((rd_T88 l (i : Int)).f0.f0, (rd_T88 l (i : Int)).f0.f1), ((rd_T88 l (i : Int)).f1.f0, (rd_T88 l (i : Int)).f1.f1)) :: (sgs l).drop (i + 1) := by
  unfold sgs
  rw [← List.map_drop, ← List.map_drop, rdG_drop h]
  rfl
/-- The segments of a line, as the program lays them. -/
def segL (l : List S50) : List S88 := (List.range (l.length - 1)).map fun j => ⟨⟨(rd_T50 l ((j : Nat) : Int)).f0, (rd_T50 l ((j : Nat) : Int)).f1⟩, ⟨(rd_T50 l ((j + 1 : Nat) : Int)).f0, (rd_T50 l ((j + 1 : Nat) : Int)).f1⟩⟩
theorem segL_length (l : List S50) : (segL l).length = l.length - 1 := by simp [segL]
theorem sgs_segL (l : List S50) : sgs (segL l) = segsOf (pts l) := by
  unfold sgs segL segsOf
  rw [List.map_map, pts_length]
  apply List.map_congr_left
  intro j _
  simp [at_pts]
theorem segL_take {l : List S50} {i : Nat} (h0 : 1 ≤ i) (h : i < l.length) : (segL l).take i = (segL l).take (i - 1) ++ [⟨⟨(rd_T50 l ((i - 1 : Nat) : Int)).f0, (rd_T50 l ((i - 1 : Nat) : Int)).f1⟩, ⟨(rd_T50 l (i : Int)).f0, (rd_T50 l (i : Int)).f1⟩⟩] := by
  obtain ⟨j, rfl⟩ : ∃ j, i = j + 1 := ⟨i - 1, by omega⟩
  rw [List.take_add_one]
  congr 1
  have hj : j < l.length - 1 := by omega
  simp [segL, hj]
theorem laws_szPointS.eq (l : List S83) (n : Int) (hn : l.length ≤ 9223372036854775807) (h0 : 0 ≤ n) (h1 : n ≤ 1048576) : laws_szPointS.f l n = some (if n < (l.length : Int) then -1 else n - (l.length : Int)) := by
  unfold laws_szPointS.f
  rw [w64 (by omega) (by omega)]
  by_cases h : n < (l.length : Int)
  · rw [if_pos h, if_pos (by omega)]
  · rw [if_neg h, if_neg (by omega)]
/-- The program's points, out of the law's own. -/
def toP (l : List S83) : List S50 := l.map fun x => ⟨x.f0, x.f1⟩
theorem toP_length (l : List S83) : (toP l).length = l.length := by simp [toP]
theorem toP_get {l : List S83} {i : Nat} (h : i < l.length) : (toP l)[i]? = some ⟨(rd_T83 l (i : Int)).f0, (rd_T83 l (i : Int)).f1⟩ := by
  unfold toP rd_T83
  simp [List.getD_eq_getElem?_getD, h]
theorem laws_toPointS.l0_ok (x0 : List S83) (hn : x0.length ≤ 1048576) : ∀ (d k i : Nat) (out : List S50), i + d = x0.length → out.length = x0.length → out.take i = (toP x0).take i → d < k → laws_toPointS.l0 k x0 out (i : Int) = some (toP x0) := by
  intro d
  induction d with
  | zero =>
    intro k i out hi hl ht hk
    obtain ⟨k, rfl⟩ : ∃ m, k = m + 1 := ⟨k - 1, by omega⟩
    simp only [laws_toPointS.l0]
    rw [if_neg (by omega), take_all ht (by omega) (by rw [toP_length]; omega)]
  | succ d ih =>
    intro k i out hi hl ht hk
    obtain ⟨k, rfl⟩ : ∃ m, k = m + 1 := ⟨k - 1, by omega⟩
    simp only [laws_toPointS.l0, laws_toPoint.f]
    rw [if_pos (by omega), if_pos (by omega)]
    simp only [Option.bind_some]
    rw [if_pos (by omega), w64_succ (n := x0.length) (by omega) (by omega)]
    refine ih k (i + 1) _ (by omega) (by simpa using hl) ?_ (by omega)
    exact take_set_succ (by rw [toP_length]; omega) (by rw [toP_length]; omega) ht (toP_get (by omega))
theorem laws_toPointS.ok (l : List S83) (hn : l.length ≤ 1048576) (k : Nat) (hk : l.length < k) : laws_toPointS.f k l = some (toP l) := by
  unfold laws_toPointS.f
  rw [if_pos (by omega), if_pos (by omega)]
  exact laws_toPointS.l0_ok l (by omega) l.length k 0 _ (by omega) (by simp) (by simp) hk
theorem laws_eqPointS.l0_ok (x0 x1 : List S50) (hn : x0.length ≤ 140737488355328) (hl : x0.length = x1.length) : ∀ (d k i : Nat), i + d = x0.length → d < k → laws_eqPointS.l0 k x0 x1 (i : Int) = some (B (x0.drop i = x1.drop i)) := by
  intro d
  induction d with
  | zero =>
    intro k i hi hk
    obtain ⟨k, rfl⟩ : ∃ m, k = m + 1 := ⟨k - 1, by omega⟩
    simp only [laws_eqPointS.l0]
    rw [if_neg (by omega), List.drop_of_length_le (by omega), List.drop_of_length_le (by omega), B_pos rfl]
  | succ d ih =>
    intro k i hi hk
    obtain ⟨k, rfl⟩ : ∃ m, k = m + 1 := ⟨k - 1, by omega⟩
    simp only [laws_eqPointS.l0]
    rw [if_pos (by omega), if_pos (by omega), if_pos (by omega), rdP_drop (l := x0) (i := i) (by omega), rdP_drop (l := x1) (i := i) (by omega), w64_succ (n := x0.length) (by omega) (by omega), ih k (i + 1) (by omega) (by omega)]
    generalize rd_T50 x0 (i : Int) = a
    generalize rd_T50 x1 (i : Int) = b
    by_cases h0 : a.f0 = b.f0
    · by_cases h1 : a.f1 = b.f1
      · have e := pt_ext h0 h1
        subst e
        simp [laws_eqPoint.f]
      · rw [B_neg (P := a :: _ = b :: _) (fun e => h1 (by rw [(List.cons.inj e).1]))]
        simp [laws_eqPoint.f, h0, h1]
    · rw [B_neg (P := a :: _ = b :: _) (fun e => h0 (by rw [(List.cons.inj e).1]))]
      simp [laws_eqPoint.f, h0]
theorem laws_eqPointS.ok (a b : List S50) (hn : a.length ≤ 140737488355328) (k : Nat) (hk : a.length < k) : laws_eqPointS.f k a b = some (B (a = b)) := by
  unfold laws_eqPointS.f
  by_cases h : (a.length : Int) = (b.length : Int)
  · rw [if_pos h]
    exact laws_eqPointS.l0_ok a b hn (by omega) a.length k 0 (by omega) hk
  · rw [if_neg h, B_neg (fun e => h (by rw [e]))]
theorem laws_eqPointS.same (a : List S50) (hn : a.length ≤ 140737488355328) (k : Nat) (hk : a.length < k) : laws_eqPointS.f k a a = some true := by
  rw [laws_eqPointS.ok a a hn k hk, B_pos rfl]
theorem spec_l1In.eq (a b c : Int) : spec_l1In.f a b c = some (decide (b ≤ a ∧ a ≤ c)) := by
  unfold spec_l1In.f
  by_cases h : b ≤ a
  · rw [if_pos h]; simp [h]
  · rw [if_neg h]; simp [h]
theorem spec_IsPoint.eq (x y : Int) : spec_IsPoint.f x y = some (isPt x y) := isPt_bind x y (spec_l1In.eq ..) (spec_l1In.eq ..)
theorem spec_IsLine.l0_ok (l : List S50) (hn : l.length ≤ 140737488355328) : ∀ (d k i : Nat), i + d = l.length → d < k → spec_IsLine.l0 k l (i : Int) = some (B ((2 ≤ l.length ∧ l.length ≤ 10) ∧ ∀ j, i ≤ j → j < l.length → good (pts l) j)) := by
  intro d
  induction d with
  | zero =>
    intro k i hi hk
    obtain ⟨k, rfl⟩ : ∃ m, k = m + 1 := ⟨k - 1, by omega⟩
    simp only [spec_IsLine.l0]
    rw [if_neg (by omega), spec_l1In.eq]
    simp only [Option.bind_some]
    by_cases h : 2 ≤ l.length ∧ l.length ≤ 10
    · rw [B_pos ⟨h, fun j h1 h2 => by omega⟩, decide_eq_true (by omega)]
    · rw [B_neg (fun x => h x.1), decide_eq_false (by omega)]
  | succ d ih =>
    intro k i hi hk
    obtain ⟨k, rfl⟩ : ∃ m, k = m + 1 := ⟨k - 1, by omega⟩
    simp only [spec_IsLine.l0]
    rw [if_pos (by omega), if_pos (by omega), spec_IsPoint.eq]
    simp only [Option.bind_some]
    have e1 := at_pts l i
    have step : good (pts l) i → spec_IsLine.l0 k l (wrap64 ((i : Int) + 1)) = some (B ((2 ≤ l.length ∧ l.length ≤ 10) ∧ ∀ j, i ≤ j → j < l.length → good (pts l) j)) := by
      intro g
      rw [w64_succ (n := l.length) (by omega) (by omega), ih k (i + 1) (by omega) (by omega)]
      congr 1
      exact B_congr (by rw [good_step g])
    have stop : ¬ good (pts l) i → B ((2 ≤ l.length ∧ l.length ≤ 10) ∧ ∀ j, i ≤ j → j < l.length → good (pts l) j) = false := fun g => B_neg (fun x => g (x.2 i (Nat.le_refl _) (by omega)))
    have g1 : good (pts l) i ↔ (isPt (rd_T50 l (i : Int)).f0 (rd_T50 l (i : Int)).f1 = true ∧ (0 < i → at_ (pts l) (i - 1) ≠ ((rd_T50 l (i : Int)).f0, (rd_T50 l (i : Int)).f1))) := by unfold good; rw [e1]
    by_cases hp : isPt (rd_T50 l (i : Int)).f0 (rd_T50 l (i : Int)).f1 = true
    · rw [if_pos hp]
      by_cases h0 : (i : Int) > 0
      · have e2 := at_pts l (i - 1)
        rw [if_pos h0, w64_pred (by omega) (by omega), if_pos (by omega), if_pos (by omega)]
        rw [e2] at g1
        by_cases hq : ((rd_T50 l ((i - 1 : Nat) : Int)).f0 == (rd_T50 l (i : Int)).f0 && (rd_T50 l ((i - 1 : Nat) : Int)).f1 == (rd_T50 l (i : Int)).f1) = true
        · rw [if_pos hq, stop (fun x => (g1.mp x).2 (by omega) (by simpa [Prod.ext_iff] using hq))]
        · rw [if_neg hq]
          exact step (g1.mpr ⟨hp, fun _ e => hq (by simpa [Prod.ext_iff] using e)⟩)
      · rw [if_neg h0]
        exact step (g1.mpr ⟨hp, fun h => absurd h (by omega)⟩)
    · rw [if_neg hp, stop (fun x => hp (g1.mp x).1)]
theorem spec_IsLine.ok (l : List S50) (hn : l.length ≤ 140737488355328) (k : Nat) (hk : l.length < k) : spec_IsLine.f k l = some (B (lineP (pts l))) := by
  unfold spec_IsLine.f
  rw [show (0 : Int) = ((0 : Nat) : Int) from rfl, spec_IsLine.l0_ok l hn l.length k 0 (by omega) hk]
  congr 1
  refine B_congr ?_
  unfold lineP
  rw [pts_length]
  exact ⟨fun h => ⟨h.1.1, h.1.2, fun j hj => h.2 j (by omega) hj⟩, fun h => ⟨⟨h.1, h.2.1⟩, fun j _ hj => h.2.2 j hj⟩⟩
theorem spec_SegmentsOf.l0_ok (l : List S50) (hn : l.length ≤ 1048576) (hl : lineP (pts l)) : ∀ (d k i : Nat), 1 ≤ i → i + d = l.length → l.length + d + 1 < k → spec_SegmentsOf.l0 k l ((segL l).take (i - 1)) (i : Int) = some (segL l) := by
  intro d
  induction d with
  | zero =>
    intro k i h1 hi hk
    obtain ⟨k, rfl⟩ : ∃ m, k = m + 1 := ⟨k - 1, by omega⟩
    simp only [spec_SegmentsOf.l0]
    rw [if_neg (by omega), List.take_of_length_le (by rw [segL_length]; omega)]
  | succ d ih =>
    intro k i h1 hi hk
    obtain ⟨k, rfl⟩ : ∃ m, k = m + 1 := ⟨k - 1, by omega⟩
    simp only [spec_SegmentsOf.l0]
    rw [if_pos (by omega), spec_IsLine.ok l (by omega) k (by omega), B_pos hl]
    simp only [Option.bind_some, if_true]
    rw [w64_pred (by omega) (by omega), if_pos (by omega), if_pos (by omega), if_pos (by omega), if_pos (by rw [List.length_take, segL_length]; omega), w64_succ (n := l.length) (by omega) (by omega), ← segL_take h1 (by omega)]
    exact ih k (i + 1) (by omega) (by omega) (by omega)
theorem spec_SegmentsOf.ok (l : List S50) (hn : l.length ≤ 1048576) (k : Nat) (hk : 2 * l.length + 4 < k) : spec_SegmentsOf.f k l = some (if B (lineP (pts l)) = true then segL l else []) := by
  unfold spec_SegmentsOf.f
  by_cases hl : lineP (pts l)
  · have h2 := hl.1
    rw [pts_length] at h2
    rw [B_pos hl, if_pos rfl]
    exact spec_SegmentsOf.l0_ok l hn hl (l.length - 1) k 1 (by omega) (by omega) (by omega)
  · obtain ⟨k, rfl⟩ : ∃ m, k = m + 1 := ⟨k - 1, by omega⟩
    rw [B_neg hl, if_neg (by simp)]
    simp only [spec_SegmentsOf.l0]
    by_cases h : (1 : Int) < (l.length : Int)
    · rw [if_pos h, spec_IsLine.ok l (by omega) k (by omega), B_neg hl]
      rfl
    · rw [if_neg h]
theorem spec_SegmentsOf.sgs (l : List S50) : sgs (if B (lineP (pts l)) = true then segL l else []) = segs (pts l) := by
  unfold segs
  by_cases h : B (lineP (pts l)) = true
  · rw [if_pos h, if_pos h, sgs_segL]
  · rw [if_neg h, if_neg h]; rfl
theorem spec_Max.eq (a b : Int) : spec_Max.f a b = some (max a b) := by
  unfold spec_Max.f
  by_cases h : b > a
  · rw [if_pos h]; congr 1; omega
  · rw [if_neg h]; congr 1; omega
theorem spec_StepsBetween.eq (k : Nat) (a b c d : Int) : spec_StepsBetween.f (k + 1) a b c d = some (steps a b c d) := by
  unfold spec_StepsBetween.f steps
  rw [spec_IsPoint.eq, spec_IsPoint.eq]
  cases isPt a b <;> cases isPt c d <;> simp [spec_StepsBetween.j0, spec_Max.eq]
theorem spec_LineSteps.l0_ok (s : List S88) (hn : s.length ≤ 1048576) : ∀ (d k i : Nat) (n : Int), i + d = s.length → d + 1 < k → spec_LineSteps.l0 k n s (i : Int) = some (stepsFrom n ((sgs s).drop i)) := by
  intro d
  induction d with
  | zero =>
    intro k i n hi hk
    obtain ⟨k, rfl⟩ : ∃ m, k = m + 1 := ⟨k - 1, by omega⟩
    simp only [spec_LineSteps.l0]
    rw [if_neg (by omega), List.drop_of_length_le (by rw [sgs_length]; omega)]
    rfl
  | succ d ih =>
    intro k i n hi hk
    obtain ⟨k, rfl⟩ : ∃ m, k = m + 2 := ⟨k - 2, by omega⟩
    simp only [spec_LineSteps.l0]
    rw [if_pos (by omega), if_pos (by omega), spec_StepsBetween.eq, sgs_drop (show i < s.length by omega), w64_succ (n := s.length) (by omega) (by omega)]
    simp only [Option.bind_some]
    exact ih (k + 1) (i + 1) _ (by omega) (by omega)
theorem spec_LineSteps.ok (l : List S50) (hn : l.length ≤ 1048576) (k : Nat) (hk : 2 * l.length + 14 < k) : spec_LineSteps.f k l = some (lineSteps (pts l)) := by
  unfold spec_LineSteps.f
  rw [spec_SegmentsOf.ok l hn k (by omega)]
  simp only [Option.bind_some]
  have h : (if B (lineP (pts l)) = true then segL l else []).length ≤ l.length := by
    split
    · rw [segL_length]; omega
    · simp
  rw [show (0 : Int) = ((0 : Nat) : Int) from rfl, spec_LineSteps.l0_ok _ (by omega) (if B (lineP (pts l)) = true then segL l else []).length k 0 _ (by omega) (by omega), spec_SegmentsOf.sgs]
  rfl
theorem impl_InRange.eq (a b c : Int) : impl_InRange.f a b c = some (decide (b ≤ a ∧ a ≤ c)) := by
  unfold impl_InRange.f
  by_cases h : b ≤ a
  · rw [if_pos h]; simp [h]
  · rw [if_neg h]; simp [h]
theorem impl_IsPoint.eq (x y : Int) : impl_IsPoint.f x y = some (isPt x y) := isPt_bind x y (impl_InRange.eq ..) (impl_InRange.eq ..)
theorem impl_StepsBetween.eq (a b c d : Int) : impl_StepsBetween.f a b c d = some (steps a b c d) := by
  unfold impl_StepsBetween.f steps
  rw [impl_IsPoint.eq, impl_IsPoint.eq]
  have e : ∀ x y : Int, mx x y = max x y := fun x y => by unfold mx; split <;> omega
  cases isPt a b <;> cases isPt c d <;> simp [e]
theorem impl_IsLine.l0_ok (l : List S50) (hn : l.length ≤ 140737488355328) : ∀ (d k i : Nat), i + d = l.length → d < k → impl_IsLine.l0 k l l (l.length : Int) (i : Int) = some (B (∀ j, i ≤ j → j < l.length → good (pts l) j)) := by
  intro d
  induction d with
  | zero =>
    intro k i hi hk
    obtain ⟨k, rfl⟩ : ∃ m, k = m + 1 := ⟨k - 1, by omega⟩
    simp only [impl_IsLine.l0]
    rw [if_neg (by omega), B_pos (fun j h1 h2 => by omega)]
  | succ d ih =>
    intro k i hi hk
    obtain ⟨k, rfl⟩ : ∃ m, k = m + 1 := ⟨k - 1, by omega⟩
    simp only [impl_IsLine.l0]
    rw [if_pos (by omega), if_pos (by omega), if_pos (by omega), impl_IsPoint.eq]
    simp only [Option.bind_some]
    have e1 := at_pts l i
    have step : good (pts l) i → impl_IsLine.l0 k l l (l.length : Int) (wrap64 ((i : Int) + 1)) = some (B (∀ j, i ≤ j → j < l.length → good (pts l) j)) := by
      intro g
      rw [w64_succ (n := l.length) (by omega) (by omega), ih k (i + 1) (by omega) (by omega)]
      congr 1
      exact B_congr (by rw [good_step g])
    have stop : ¬ good (pts l) i → B (∀ j, i ≤ j → j < l.length → good (pts l) j) = false := fun g => B_neg (fun x => g (x i (Nat.le_refl _) (by omega)))
    have g1 : good (pts l) i ↔ (isPt (rd_T50 l (i : Int)).f0 (rd_T50 l (i : Int)).f1 = true ∧ (0 < i → at_ (pts l) (i - 1) ≠ ((rd_T50 l (i : Int)).f0, (rd_T50 l (i : Int)).f1))) := by unfold good; rw [e1]
    by_cases hp : isPt (rd_T50 l (i : Int)).f0 (rd_T50 l (i : Int)).f1 = true
    · rw [if_pos hp]
      by_cases h0 : (i : Int) > 0
      · have e2 := at_pts l (i - 1)
        rw [if_pos h0, w64_pred (by omega) (by omega), if_pos (by omega), if_pos (by omega)]
        rw [e2] at g1
        by_cases hq : ((rd_T50 l (i : Int)).f0 == (rd_T50 l ((i - 1 : Nat) : Int)).f0 && (rd_T50 l (i : Int)).f1 == (rd_T50 l ((i - 1 : Nat) : Int)).f1) = true
        · rw [if_pos hq, stop (fun x => (g1.mp x).2 (by omega) (by simp only [Bool.and_eq_true, beq_iff_eq] at hq; rw [hq.1, hq.2]))]
        · rw [if_neg hq]
          exact step (g1.mpr ⟨hp, fun _ e => hq (by simp only [Prod.ext_iff] at e; simp [e.1, e.2])⟩)
      · rw [if_neg h0]
        exact step (g1.mpr ⟨hp, fun h => absurd h (by omega)⟩)
    · rw [if_neg hp, stop (fun x => hp (g1.mp x).1)]
theorem impl_IsLine.ok (l : List S50) (k : Nat) (hk : 12 ≤ k) : impl_IsLine.f k l = some (B (lineP (pts l))) := by
  unfold impl_IsLine.f
  obtain ⟨k, rfl⟩ : ∃ m, k = m + 1 := ⟨k - 1, by omega⟩
  by_cases h : (l.length : Int) < 2
  · rw [if_pos h, B_neg (fun x => by have := x.1; rw [pts_length] at this; omega)]
    simp [impl_IsLine.j0]
  · rw [if_neg h]
    by_cases h2 : (l.length : Int) > 10
    · rw [decide_eq_true h2, B_neg (fun x => by have := x.2.1; rw [pts_length] at this; omega)]
      simp [impl_IsLine.j0]
    · rw [decide_eq_false h2]
      simp only [impl_IsLine.j0]
      rw [if_neg (by simp), show (0 : Int) = ((0 : Nat) : Int) from rfl, impl_IsLine.l0_ok l (by omega) l.length k 0 (by omega) (by omega)]
      congr 1
      refine B_congr ?_
      unfold lineP
      rw [pts_length]
      exact ⟨fun h => ⟨by omega, by omega, fun j hj => h j (by omega) hj⟩, fun h j _ hj => h.2.2 j hj⟩
theorem impl_SegmentsOf.l0_ok (l : List S50) (hn : l.length ≤ 10) : ∀ (d k i : Nat), 1 ≤ i → i + d = l.length → d < k → impl_SegmentsOf.l0 k l ((segL l).take (i - 1)) (i : Int) = some (segL l) := by
  intro d
  induction d with
  | zero =>
    intro k i h1 hi hk
    obtain ⟨k, rfl⟩ : ∃ m, k = m + 1 := ⟨k - 1, by omega⟩
    simp only [impl_SegmentsOf.l0]
    rw [if_neg (by omega), List.take_of_length_le (by rw [segL_length]; omega)]
  | succ d ih =>
    intro k i h1 hi hk
    obtain ⟨k, rfl⟩ : ∃ m, k = m + 1 := ⟨k - 1, by omega⟩
    simp only [impl_SegmentsOf.l0]
    rw [if_pos (by omega), w64_pred (by omega) (by omega), if_pos (by omega), if_pos (by omega), if_pos (by omega), if_pos (by rw [List.length_take, segL_length]; omega), w64_succ (n := l.length) (by omega) (by omega), ← segL_take h1 (by omega)]
    exact ih k (i + 1) (by omega) (by omega) (by omega)
/-- The segments of a line, or none. -/
noncomputable def segI (l : List S50) : List S88 := if B (lineP (pts l)) = true then segL l else []
theorem segI_sgs (l : List S50) : sgs (segI l) = segs (pts l) := by
  unfold segs segI
  by_cases h : B (lineP (pts l)) = true
  · rw [if_pos h, if_pos h, sgs_segL]
  · rw [if_neg h, if_neg h]; rfl
theorem segI_length (l : List S50) : (segI l).length ≤ 9 := by
  unfold segI
  by_cases h : B (lineP (pts l)) = true
  · have := (B_iff.mp h).2.1
    rw [pts_length] at this
    rw [if_pos h, segL_length]; omega
  · rw [if_neg h]; simp
theorem impl_SegmentsOf.ok (l : List S50) (k : Nat) (hk : 12 ≤ k) : impl_SegmentsOf.f k l = some (segI l) := by
  unfold impl_SegmentsOf.f segI
  simp only [Option.bind_some]
  rw [impl_IsLine.ok l k hk]
  simp only [Option.bind_some]
  by_cases hl : lineP (pts l)
  · have h2 := hl.1
    have h3 := hl.2.1
    rw [pts_length] at h2 h3
    rw [B_pos hl, if_pos rfl, if_pos rfl]
    exact impl_SegmentsOf.l0_ok l (by omega) (l.length - 1) k 1 (by omega) (by omega) (by omega)
  · rw [B_neg hl, if_neg (by simp), if_neg (by simp)]
theorem impl_LineSteps.l0_ok (s : List S88) (hn : s.length ≤ 1048576) : ∀ (d k i : Nat) (n : Int), i + d = s.length → d + 1 < k → impl_LineSteps.l0 k n s (s.length : Int) (i : Int) = some (stepsFrom n ((sgs s).drop i)) := by
  intro d
  induction d with
  | zero =>
    intro k i n hi hk
    obtain ⟨k, rfl⟩ : ∃ m, k = m + 1 := ⟨k - 1, by omega⟩
    simp only [impl_LineSteps.l0]
    rw [if_neg (by omega), List.drop_of_length_le (by rw [sgs_length]; omega)]
    rfl
  | succ d ih =>
    intro k i n hi hk
    obtain ⟨k, rfl⟩ : ∃ m, k = m + 1 := ⟨k - 1, by omega⟩
    simp only [impl_LineSteps.l0]
    rw [if_pos (by omega), if_pos (by omega), if_pos (by omega), impl_StepsBetween.eq, sgs_drop (show i < s.length by omega), w64_succ (n := s.length) (by omega) (by omega)]
    simp only [Option.bind_some]
    exact ih k (i + 1) _ (by omega) (by omega)
theorem impl_LineSteps.ok (l : List S50) (k : Nat) (hk : 20 ≤ k) : impl_LineSteps.f k l = some (lineSteps (pts l)) := by
  unfold impl_LineSteps.f
  rw [impl_SegmentsOf.ok l k (by omega)]
  simp only [Option.bind_some]
  have h := segI_length l
  rw [show (0 : Int) = ((0 : Nat) : Int) from rfl, impl_LineSteps.l0_ok _ (by omega) (segI l).length k 0 _ (by omega) (by omega), segI_sgs]
  rfl
theorem FnExactLineSteps (l : List S83) (hn : l.length ≤ 9223372036854775807) : ∃ k, laws_FnExactLineSteps.f k l = some true := by
  refine ⟨2 * l.length + 30, ?_⟩
  unfold laws_FnExactLineSteps.f
  rw [laws_szPointS.eq l 1048576 hn (by omega) (by omega)]
  by_cases h : (1048576 : Int) < (l.length : Int)
  · rw [if_pos h]; rfl
  · rw [if_neg h]
    have hp := toP_length l
    simp only [Option.bind_some]
    rw [if_neg (by omega), laws_toPointS.ok l (by omega) _ (by omega)]
    simp only [Option.bind_some]
    rw [spec_LineSteps.ok _ (by omega) _ (by omega), impl_LineSteps.ok _ _ (by omega)]
    simp only [Option.bind_some]
    rw [laws_eqPointS.same _ (by omega) _ (by omega)]
    simp

end Go.Proofs.Ytelngjhdpbfifaa.Pure
