/- The program's SegmentsOf answers as the reference's, leaves the slice as it was, and its result shares no memory with the argument or with another result, for every slice of points. -/
import Derived.Test.YtonocoedbihfeaaQFnExactSegmentsOfx7
import Derived.Test.YtonocoedbihfeaaBase
import Derived.Test.YtonocoedbihfeaaGeo
import Derived.Test.YtonocoedbihfeaaLn
import Derived.Test.YtonocoedbihfeaaLst
namespace Go.Proofs.Ytonocoedbihfeaa.Pure
open Go Go.RowKit Go.Proofs.Ytonocoedbihfeaa.PFnExactSegmentsOf Go.Proofs.YtonocoedbihfeaaW.PrintWords Go.Proofs.YtonocoedbihfeaaW.PrintLast Go.Proofs.YtonocoedbihfeaaW.PrintMore Go.Proofs.Ytonocoedbihfeaa.Base Go.Proofs.Ytonocoedbihfeaa.Geo Go.Proofs.Ytonocoedbihfeaa.Ln Go.Proofs.Ytonocoedbihfeaa.Lst
set_option linter.unusedVariables false
set_option linter.unusedSimpArgs false
def pts (l : List S37) : List Pt := l.map fun x => (x.f0, x.f1)
theorem pts_length (l : List S37) : (pts l).length = l.length := by simp [pts]
theorem at_pts (l : List S37) (i : Nat) : at_ (pts l) i = ((rd_T37 l (i : Int)).f0, (rd_T37 l (i : Int)).f1) := by
  unfold at_ pts rd_T37
  simp only [List.getD_eq_getElem?_getD, List.getElem?_map, Int.toNat_natCast]
  cases l[i]? <;> rfl
theorem rdP_get {l : List S37} {i : Nat} (h : i < l.length) : l[i]? = some (rd_T37 l (i : Int)) := by
  unfold rd_T37
  simp [List.getD_eq_getElem?_getD, h]
theorem rdP_drop {l : List S37} {i : Nat} (h : i < l.length) : l.drop i = rd_T37 l (i : Int) :: l.drop (i + 1) := by
  have e := rdP_get h
  rw [List.getElem?_eq_getElem h] at e
  rw [List.drop_eq_getElem_cons h, Option.some.inj e]
theorem pt_eta (x : S37) : (⟨x.f0, x.f1⟩ : S37) = x := rfl
theorem pt_ext {x y : S37} (h0 : x.f0 = y.f0) (h1 : x.f1 = y.f1) : x = y := by cases x; cases y; simp_all
theorem w64_pred {i : Nat} (h0 : 0 < i) (hn : i ≤ 140737488355328) : wrap64 ((i : Int) - 1) = ((i - 1 : Nat) : Int) := by
  rw [w64 (by omega) (by omega)]; omega
def sgs (l : List S46) : List Sg := l.map fun x => ((x.f0.f0, x.f0.f1), (x.f1.f0, x.f1.f1))
theorem sgs_length (l : List S46) : (sgs l).length = l.length := by simp [sgs]
theorem at_sgs (l : List S46) (i : Nat) : sgAt (sgs l) i = (((rd_T46 l (i : Int)).f0.f0, (rd_T46 l (i : Int)).f0.f1), ((rd_T46 l (i : Int)).f1.f0, (rd_T46 l (i : Int)).f1.f1)) := by
  unfold sgAt sgs rd_T46
  simp only [List.getD_eq_getElem?_getD, List.getElem?_map, Int.toNat_natCast]
  cases l[i]? <;> rfl
theorem rdG_get {l : List S46} {i : Nat} (h : i < l.length) : l[i]? = some (rd_T46 l (i : Int)) := by
  unfold rd_T46
  simp [List.getD_eq_getElem?_getD, h]
theorem rdG_drop {l : List S46} {i : Nat} (h : i < l.length) : l.drop i = rd_T46 l (i : Int) :: l.drop (i + 1) := by
  have e := rdG_get h
  rw [List.getElem?_eq_getElem h] at e
  rw [List.drop_eq_getElem_cons h, Option.some.inj e]
theorem sgs_drop {l : List S46} {i : Nat} (h : i < l.length) : (sgs l).drop i = (((rd_T46 l (i : Int)).f0.f0, (rd_T46 l (i : Int)).f0.f1), ((rd_T46 l (i : Int)).f1.f0, (rd_T46 l (i : Int)).f1.f1)) :: (sgs l).drop (i + 1) := by
  unfold sgs
  rw [← List.map_drop, ← List.map_drop, rdG_drop h]
  rfl
/-- The segments of a line, as the program lays them. -/
def segL (l : List S37) : List S46 := (List.range (l.length - 1)).map fun j => ⟨⟨(rd_T37 l ((j : Nat) : Int)).f0, (rd_T37 l ((j : Nat) : Int)).f1⟩, ⟨(rd_T37 l ((j + 1 : Nat) : Int)).f0, (rd_T37 l ((j + 1 : Nat) : Int)).f1⟩⟩
theorem segL_length (l : List S37) : (segL l).length = l.length - 1 := by simp [segL]
theorem sgs_segL (l : List S37) : sgs (segL l) = segsOf (pts l) := by
  unfold sgs segL segsOf
  rw [List.map_map, pts_length]
  apply List.map_congr_left
  intro j _
  simp [at_pts]
theorem segL_take {l : List S37} {i : Nat} (h0 : 1 ≤ i) (h : i < l.length) : (segL l).take i = (segL l).take (i - 1) ++ [⟨⟨(rd_T37 l ((i - 1 : Nat) : Int)).f0, (rd_T37 l ((i - 1 : Nat) : Int)).f1⟩, ⟨(rd_T37 l (i : Int)).f0, (rd_T37 l (i : Int)).f1⟩⟩] := by
  obtain ⟨j, rfl⟩ : ∃ j, i = j + 1 := ⟨i - 1, by omega⟩
  rw [List.take_add_one]
  congr 1
  have hj : j < l.length - 1 := by omega
  simp [segL, hj]
theorem laws_szPointS.eq (l : List S39) (n : Int) (hn : l.length ≤ 9223372036854775807) (h0 : 0 ≤ n) (h1 : n ≤ 1048576) : laws_szPointS.f l n = some (if n < (l.length : Int) then -1 else n - (l.length : Int)) := by
  unfold laws_szPointS.f
  rw [w64 (by omega) (by omega)]
  by_cases h : n < (l.length : Int)
  · rw [if_pos h, if_pos (by omega)]
  · rw [if_neg h, if_neg (by omega)]
/-- The program's points, out of the law's own. -/
def toP (l : List S39) : List S37 := l.map fun x => ⟨x.f0, x.f1⟩
theorem toP_length (l : List S39) : (toP l).length = l.length := by simp [toP]
theorem toP_get {l : List S39} {i : Nat} (h : i < l.length) : (toP l)[i]? = some ⟨(rd_T39 l (i : Int)).f0, (rd_T39 l (i : Int)).f1⟩ := by
  unfold toP rd_T39
  simp [List.getD_eq_getElem?_getD, h]
theorem laws_toPointS.l0_ok (x0 : List S39) (hn : x0.length ≤ 1048576) : ∀ (d k i : Nat) (out : List S37), i + d = x0.length → out.length = x0.length → out.take i = (toP x0).take i → d < k → laws_toPointS.l0 k x0 out (i : Int) = some (toP x0) := by
  intro d
  induction d with
  | zero =>
    intro k i out hi hl ht hk
    obtain ⟨k, rfl⟩ : ∃ m, k = m + 1 := ⟨k - 1, by omega⟩
    simp only [laws_toPointS.l0]
    rw [if_neg (by omega), take_all ht (by omega) (by rw [toP_length]; omega)]
  | succ d ih =>
    intro k i out hi hl ht hk
    obtain ⟨k, rfl⟩ : ∃ m, k = m + 1 := ⟨k - 1, by omega⟩
    simp only [laws_toPointS.l0, laws_toPoint.f]
    rw [if_pos (by omega), if_pos (by omega)]
    simp only [Option.bind_some]
    rw [if_pos (by omega), w64_succ (n := x0.length) (by omega) (by omega)]
    refine ih k (i + 1) _ (by omega) (by simpa using hl) ?_ (by omega)
    exact take_set_succ (by rw [toP_length]; omega) (by rw [toP_length]; omega) ht (toP_get (by omega))
theorem laws_toPointS.ok (l : List S39) (hn : l.length ≤ 1048576) (k : Nat) (hk : l.length < k) : laws_toPointS.f k l = some (toP l) := by
  unfold laws_toPointS.f
  rw [if_pos (by omega), if_pos (by omega)]
  exact laws_toPointS.l0_ok l (by omega) l.length k 0 _ (by omega) (by simp) (by simp) hk
theorem laws_eqPointS.l0_ok (x0 x1 : List S37) (hn : x0.length ≤ 140737488355328) (hl : x0.length = x1.length) : ∀ (d k i : Nat), i + d = x0.length → d < k → laws_eqPointS.l0 k x0 x1 (i : Int) = some (B (x0.drop i = x1.drop i)) := by
  intro d
  induction d with
  | zero =>
    intro k i hi hk
    obtain ⟨k, rfl⟩ : ∃ m, k = m + 1 := ⟨k - 1, by omega⟩
    simp only [laws_eqPointS.l0]
    rw [if_neg (by omega), List.drop_of_length_le (by omega), List.drop_of_length_le (by omega), B_pos rfl]
  | succ d ih =>
    intro k i hi hk
    obtain ⟨k, rfl⟩ : ∃ m, k = m + 1 := ⟨k - 1, by omega⟩
    simp only [laws_eqPointS.l0]
    rw [if_pos (by omega), if_pos (by omega), if_pos (by omega), rdP_drop (l := x0) (i := i) (by omega), rdP_drop (l := x1) (i := i) (by omega), w64_succ (n := x0.length) (by omega) (by omega), ih k (i + 1) (by omega) (by omega)]
    generalize rd_T37 x0 (i : Int) = a
    generalize rd_T37 x1 (i : Int) = b
    by_cases h0 : a.f0 = b.f0
    · by_cases h1 : a.f1 = b.f1
      · have e := pt_ext h0 h1
        subst e
        simp [laws_eqPoint.f]
      · rw [B_neg (P := a :: _ = b :: _) (fun e => h1 (by rw [(List.cons.inj e).1]))]
        simp [laws_eqPoint.f, h0, h1]
    · rw [B_neg (P := a :: _ = b :: _) (fun e => h0 (by rw [(List.cons.inj e).1]))]
      simp [laws_eqPoint.f, h0]
theorem laws_eqPointS.ok (a b : List S37) (hn : a.length ≤ 140737488355328) (k : Nat) (hk : a.length < k) : laws_eqPointS.f k a b = some (B (a = b)) := by
  unfold laws_eqPointS.f
  by_cases h : (a.length : Int) = (b.length : Int)
  · rw [if_pos h]
    exact laws_eqPointS.l0_ok a b hn (by omega) a.length k 0 (by omega) hk
  · rw [if_neg h, B_neg (fun e => h (by rw [e]))]
theorem laws_eqPointS.same (a : List S37) (hn : a.length ≤ 140737488355328) (k : Nat) (hk : a.length < k) : laws_eqPointS.f k a a = some true := by
  rw [laws_eqPointS.ok a a hn k hk, B_pos rfl]
/-- The marks that the law writes into n points, from 1 on. -/
def marksP (n : Nat) : List S37 := (List.range n).map fun j : Nat => ⟨1 + 2 * (j : Int), 1 + 2 * (j : Int) + 1⟩
theorem marksP_length (n : Nat) : (marksP n).length = n := by simp [marksP]
theorem marksP_get {n i : Nat} (h : i < n) : (marksP n)[i]? = some ⟨1 + 2 * (i : Int), 1 + 2 * (i : Int) + 1⟩ := by simp [marksP, h]
theorem rdP_some {xs : List S37} {i : Nat} {v : S37} (h : xs[i]? = some v) : rd_T37 xs (i : Int) = v := by
  unfold rd_T37
  simp [List.getD_eq_getElem?_getD, h]
theorem laws_markPointS.l0_ok (n : Nat) (hn : n ≤ 140737488355328) : ∀ (d k i : Nat) (out : List S37), i + d = n → out.length = n → out.take i = (marksP n).take i → d < k → laws_markPointS.l0 k out (1 + 2 * (i : Int)) (i : Int) = some (1 + 2 * (n : Int), marksP n) := by
  intro d
  induction d with
  | zero =>
    intro k i out hi hl ht hk
    obtain ⟨k, rfl⟩ : ∃ m, k = m + 1 := ⟨k - 1, by omega⟩
    simp only [laws_markPointS.l0]
    rw [if_neg (by omega), take_all ht (by omega) (by rw [marksP_length]; omega)]
    congr 2; omega
  | succ d ih =>
    intro k i out hi hl ht hk
    obtain ⟨k, rfl⟩ : ∃ m, k = m + 1 := ⟨k - 1, by omega⟩
    simp only [laws_markPointS.l0]
    rw [if_pos (by omega), if_pos (by omega)]
    simp only [Option.bind_some]
    rw [w64_succ (n := n) (by omega) (by omega), w64 (n := 1 + 2 * (i : Int) + 1) (by omega) (by omega), w64 (n := 1 + 2 * (i : Int) + 1 + 1) (by omega) (by omega), show (1 + 2 * (i : Int) + 1 + 1) = 1 + 2 * ((i + 1 : Nat) : Int) by omega, List.set_set]
    refine ih k (i + 1) _ (by omega) (by simpa using hl) ?_ (by omega)
    refine take_set_succ (by rw [marksP_length]; omega) (by rw [marksP_length]; omega) ht ?_
    rw [rdP_some (v := ⟨1 + 2 * (i : Int), (rd_T37 out (i : Int)).f1⟩) (by rw [Int.toNat_natCast, List.getElem?_set_self (by omega)])]
    exact marksP_get (by omega)
theorem laws_markPointS.ok (l : List S37) (hn : l.length ≤ 140737488355328) (k : Nat) (hk : l.length < k) : laws_markPointS.f k l 1 = some (1 + 2 * (l.length : Int), marksP l.length) := by
  unfold laws_markPointS.f
  exact laws_markPointS.l0_ok l.length hn l.length k 0 l (by omega) rfl (by simp) hk
theorem spec_l1In.eq (a b c : Int) : spec_l1In.f a b c = some (decide (b ≤ a ∧ a ≤ c)) := by
  unfold spec_l1In.f
  by_cases h : b ≤ a
  · rw [if_pos h]; simp [h]
  · rw [if_neg h]; simp [h]
theorem spec_IsPoint.eq (x y : Int) : spec_IsPoint.f x y = some (isPt x y) := isPt_bind x y (spec_l1In.eq ..) (spec_l1In.eq ..)
theorem spec_IsLine.l0_ok (l : List S37) (hn : l.length ≤ 140737488355328) : ∀ (d k i : Nat), i + d = l.length → d < k → spec_IsLine.l0 k l (i : Int) = some (B ((2 ≤ l.length ∧ l.length ≤ 10) ∧ ∀ j, i ≤ j → j < l.length → good (pts l) j)) := by
  intro d
  induction d with
  | zero =>
    intro k i hi hk
    obtain ⟨k, rfl⟩ : ∃ m, k = m + 1 := ⟨k - 1, by omega⟩
    simp only [spec_IsLine.l0]
    rw [if_neg (by omega), spec_l1In.eq]
    simp only [Option.bind_some]
    by_cases h : 2 ≤ l.length ∧ l.length ≤ 10
    · rw [B_pos ⟨h, fun j h1 h2 => by omega⟩, decide_eq_true (by omega)]
    · rw [B_neg (fun x => h x.1), decide_eq_false (by omega)]
  | succ d ih =>
    intro k i hi hk
    obtain ⟨k, rfl⟩ : ∃ m, k = m + 1 := ⟨k - 1, by omega⟩
    simp only [spec_IsLine.l0]
    rw [if_pos (by omega), if_pos (by omega), spec_IsPoint.eq]
    simp only [Option.bind_some]
    have e1 := at_pts l i
    have step : good (pts l) i → spec_IsLine.l0 k l (wrap64 ((i : Int) + 1)) = some (B ((2 ≤ l.length ∧ l.length ≤ 10) ∧ ∀ j, i ≤ j → j < l.length → good (pts l) j)) := by
      intro g
      rw [w64_succ (n := l.length) (by omega) (by omega), ih k (i + 1) (by omega) (by omega)]
      congr 1
      exact B_congr (by rw [good_step g])
    have stop : ¬ good (pts l) i → B ((2 ≤ l.length ∧ l.length ≤ 10) ∧ ∀ j, i ≤ j → j < l.length → good (pts l) j) = false := fun g => B_neg (fun x => g (x.2 i (Nat.le_refl _) (by omega)))
    have g1 : good (pts l) i ↔ (isPt (rd_T37 l (i : Int)).f0 (rd_T37 l (i : Int)).f1 = true ∧ (0 < i → at_ (pts l) (i - 1) ≠ ((rd_T37 l (i : Int)).f0, (rd_T37 l (i : Int)).f1))) := by unfold good; rw [e1]
    by_cases hp : isPt (rd_T37 l (i : Int)).f0 (rd_T37 l (i : Int)).f1 = true
    · rw [if_pos hp]
      by_cases h0 : (i : Int) > 0
      · have e2 := at_pts l (i - 1)
        rw [if_pos h0, w64_pred (by omega) (by omega), if_pos (by omega), if_pos (by omega)]
        rw [e2] at g1
        by_cases hq : ((rd_T37 l ((i - 1 : Nat) : Int)).f0 == (rd_T37 l (i : Int)).f0 && (rd_T37 l ((i - 1 : Nat) : Int)).f1 == (rd_T37 l (i : Int)).f1) = true
        · rw [if_pos hq, stop (fun x => (g1.mp x).2 (by omega) (by simpa [Prod.ext_iff] using hq))]
        · rw [if_neg hq]
          exact step (g1.mpr ⟨hp, fun _ e => hq (by simpa [Prod.ext_iff] using e)⟩)
      · rw [if_neg h0]
        exact step (g1.mpr ⟨hp, fun h => absurd h (by omega)⟩)
    · rw [if_neg hp, stop (fun x => hp (g1.mp x).1)]
theorem spec_IsLine.ok (l : List S37) (hn : l.length ≤ 140737488355328) (k : Nat) (hk : l.length < k) : spec_IsLine.f k l = some (B (lineP (pts l))) := by
  unfold spec_IsLine.f
  rw [show (0 : Int) = ((0 : Nat) : Int) from rfl, spec_IsLine.l0_ok l hn l.length k 0 (by omega) hk]
  congr 1
  refine B_congr ?_
  unfold lineP
  rw [pts_length]
  exact ⟨fun h => ⟨h.1.1, h.1.2, fun j hj => h.2 j (by omega) hj⟩, fun h => ⟨⟨h.1, h.2.1⟩, fun j _ hj => h.2.2 j hj⟩⟩
theorem spec_SegmentsOf.l0_ok (l : List S37) (hn : l.length ≤ 1048576) (hl : lineP (pts l)) : ∀ (d k i : Nat), 1 ≤ i → i + d = l.length → l.length + d + 1 < k → spec_SegmentsOf.l0 k l ((segL l).take (i - 1)) (i : Int) = some (segL l) := by
  intro d
  induction d with
  | zero =>
    intro k i h1 hi hk
    obtain ⟨k, rfl⟩ : ∃ m, k = m + 1 := ⟨k - 1, by omega⟩
    simp only [spec_SegmentsOf.l0]
    rw [if_neg (by omega), List.take_of_length_le (by rw [segL_length]; omega)]
  | succ d ih =>
    intro k i h1 hi hk
    obtain ⟨k, rfl⟩ : ∃ m, k = m + 1 := ⟨k - 1, by omega⟩
    simp only [spec_SegmentsOf.l0]
    rw [if_pos (by omega), spec_IsLine.ok l (by omega) k (by omega), B_pos hl]
    simp only [Option.bind_some, if_true]
    rw [w64_pred (by omega) (by omega), if_pos (by omega), if_pos (by omega), if_pos (by omega), if_pos (by rw [List.length_take, segL_length]; omega), w64_succ (n := l.length) (by omega) (by omega), ← segL_take h1 (by omega)]
    exact ih k (i + 1) (by omega) (by omega) (by omega)
theorem spec_SegmentsOf.ok (l : List S37) (hn : l.length ≤ 1048576) (k : Nat) (hk : 2 * l.length + 4 < k) : spec_SegmentsOf.f k l = some (if B (lineP (pts l)) = true then segL l else []) := by
  unfold spec_SegmentsOf.f
  by_cases hl : lineP (pts l)
  · have h2 := hl.1
    rw [pts_length] at h2
    rw [B_pos hl, if_pos rfl]
    exact spec_SegmentsOf.l0_ok l hn hl (l.length - 1) k 1 (by omega) (by omega) (by omega)
  · obtain ⟨k, rfl⟩ : ∃ m, k = m + 1 := ⟨k - 1, by omega⟩
    rw [B_neg hl, if_neg (by simp)]
    simp only [spec_SegmentsOf.l0]
    by_cases h : (1 : Int) < (l.length : Int)
    · rw [if_pos h, spec_IsLine.ok l (by omega) k (by omega), B_neg hl]
      rfl
    · rw [if_neg h]
theorem spec_SegmentsOf.sgs (l : List S37) : sgs (if B (lineP (pts l)) = true then segL l else []) = segs (pts l) := by
  unfold segs
  by_cases h : B (lineP (pts l)) = true
  · rw [if_pos h, if_pos h, sgs_segL]
  · rw [if_neg h, if_neg h]; rfl
theorem impl_InRange.eq (a b c : Int) : impl_InRange.f a b c = some (decide (b ≤ a ∧ a ≤ c)) := by
  unfold impl_InRange.f
  by_cases h : b ≤ a
  · rw [if_pos h]; simp [h]
  · rw [if_neg h]; simp [h]
theorem impl_IsPoint.eq (x y : Int) : impl_IsPoint.f x y = some (isPt x y) := isPt_bind x y (impl_InRange.eq ..) (impl_InRange.eq ..)
theorem impl_IsLine.l0_ok (l : List S37) (hn : l.length ≤ 140737488355328) : ∀ (d k i : Nat), i + d = l.length → d < k → impl_IsLine.l0 k l l (l.length : Int) (i : Int) = some (B (∀ j, i ≤ j → j < l.length → good (pts l) j)) := by
  intro d
  induction d with
  | zero =>
    intro k i hi hk
    obtain ⟨k, rfl⟩ : ∃ m, k = m + 1 := ⟨k - 1, by omega⟩
    simp only [impl_IsLine.l0]
    rw [if_neg (by omega), B_pos (fun j h1 h2 => by omega)]
  | succ d ih =>
    intro k i hi hk
    obtain ⟨k, rfl⟩ : ∃ m, k = m + 1 := ⟨k - 1, by omega⟩
    simp only [impl_IsLine.l0]
    rw [if_pos (by omega), if_pos (by omega), if_pos (by omega), impl_IsPoint.eq]
    simp only [Option.bind_some]
    have e1 := at_pts l i
    have step : good (pts l) i → impl_IsLine.l0 k l l (l.length : Int) (wrap64 ((i : Int) + 1)) = some (B (∀ j, i ≤ j → j < l.length → good (pts l) j)) := by
      intro g
      rw [w64_succ (n := l.length) (by omega) (by omega), ih k (i + 1) (by omega) (by omega)]
      congr 1
      exact B_congr (by rw [good_step g])
    have stop : ¬ good (pts l) i → B (∀ j, i ≤ j → j < l.length → good (pts l) j) = false := fun g => B_neg (fun x => g (x i (Nat.le_refl _) (by omega)))
    have g1 : good (pts l) i ↔ (isPt (rd_T37 l (i : Int)).f0 (rd_T37 l (i : Int)).f1 = true ∧ (0 < i → at_ (pts l) (i - 1) ≠ ((rd_T37 l (i : Int)).f0, (rd_T37 l (i : Int)).f1))) := by unfold good; rw [e1]
    by_cases hp : isPt (rd_T37 l (i : Int)).f0 (rd_T37 l (i : Int)).f1 = true
    · rw [if_pos hp]
      by_cases h0 : (i : Int) > 0
      · have e2 := at_pts l (i - 1)
        rw [if_pos h0, w64_pred (by omega) (by omega), if_pos (by omega), if_pos (by omega)]
        rw [e2] at g1
        by_cases hq : ((rd_T37 l (i : Int)).f0 == (rd_T37 l ((i - 1 : Nat) : Int)).f0 && (rd_T37 l (i : Int)).f1 == (rd_T37 l ((i - 1 : Nat) : Int)).f1) = true
        · rw [if_pos hq, stop (fun x => (g1.mp x).2 (by omega) (by simp only [Bool.and_eq_true, beq_iff_eq] at hq; rw [hq.1, hq.2]))]
        · rw [if_neg hq]
          exact step (g1.mpr ⟨hp, fun _ e => hq (by simp only [Prod.ext_iff] at e; simp [e.1, e.2])⟩)
      · rw [if_neg h0]
        exact step (g1.mpr ⟨hp, fun h => absurd h (by omega)⟩)
    · rw [if_neg hp, stop (fun x => hp (g1.mp x).1)]
theorem impl_IsLine.ok (l : List S37) (k : Nat) (hk : 12 ≤ k) : impl_IsLine.f k l = some (B (lineP (pts l))) := by
  unfold impl_IsLine.f
  obtain ⟨k, rfl⟩ : ∃ m, k = m + 1 := ⟨k - 1, by omega⟩
  by_cases h : (l.length : Int) < 2
  · rw [if_pos h, B_neg (fun x => by have := x.1; rw [pts_length] at this; omega)]
    simp [impl_IsLine.j0]
  · rw [if_neg h]
    by_cases h2 : (l.length : Int) > 10
    · rw [decide_eq_true h2, B_neg (fun x => by have := x.2.1; rw [pts_length] at this; omega)]
      simp [impl_IsLine.j0]
    · rw [decide_eq_false h2]
      simp only [impl_IsLine.j0]
      rw [if_neg (by simp), show (0 : Int) = ((0 : Nat) : Int) from rfl, impl_IsLine.l0_ok l (by omega) l.length k 0 (by omega) (by omega)]
      congr 1
      refine B_congr ?_
      unfold lineP
      rw [pts_length]
      exact ⟨fun h => ⟨by omega, by omega, fun j hj => h j (by omega) hj⟩, fun h j _ hj => h.2.2 j hj⟩
theorem impl_SegmentsOf.l0_ok (l : List S37) (hn : l.length ≤ 10) : ∀ (d k i : Nat), 1 ≤ i → i + d = l.length → d < k → impl_SegmentsOf.l0 k l ((segL l).take (i - 1)) (i : Int) = some (segL l) := by
  intro d
  induction d with
  | zero =>
    intro k i h1 hi hk
    obtain ⟨k, rfl⟩ : ∃ m, k = m + 1 := ⟨k - 1, by omega⟩
    simp only [impl_SegmentsOf.l0]
    rw [if_neg (by omega), List.take_of_length_le (by rw [segL_length]; omega)]
  | succ d ih =>
    intro k i h1 hi hk
    obtain ⟨k, rfl⟩ : ∃ m, k = m + 1 := ⟨k - 1, by omega⟩
    simp only [impl_SegmentsOf.l0]
    rw [if_pos (by omega), w64_pred (by omega) (by omega), if_pos (by omega), if_pos (by omega), if_pos (by omega), if_pos (by rw [List.length_take, segL_length]; omega), w64_succ (n := l.length) (by omega) (by omega), ← segL_take h1 (by omega)]
    exact ih k (i + 1) (by omega) (by omega) (by omega)
/-- The segments of a line, or none. -/
noncomputable def segI (l : List S37) : List S46 := if B (lineP (pts l)) = true then segL l else []
theorem segI_sgs (l : List S37) : sgs (segI l) = segs (pts l) := by
  unfold segs segI
  by_cases h : B (lineP (pts l)) = true
  · rw [if_pos h, if_pos h, sgs_segL]
  · rw [if_neg h, if_neg h]; rfl
theorem segI_length (l : List S37) : (segI l).length ≤ 9 := by
  unfold segI
  by_cases h : B (lineP (pts l)) = true
  · have := (B_iff.mp h).2.1
    rw [pts_length] at this
    rw [if_pos h, segL_length]; omega
  · rw [if_neg h]; simp
theorem impl_SegmentsOf.ok (l : List S37) (k : Nat) (hk : 12 ≤ k) : impl_SegmentsOf.f k l = some (segI l) := by
  unfold impl_SegmentsOf.f segI
  simp only [Option.bind_some]
  rw [impl_IsLine.ok l k hk]
  simp only [Option.bind_some]
  by_cases hl : lineP (pts l)
  · have h2 := hl.1
    have h3 := hl.2.1
    rw [pts_length] at h2 h3
    rw [B_pos hl, if_pos rfl, if_pos rfl]
    exact impl_SegmentsOf.l0_ok l (by omega) (l.length - 1) k 1 (by omega) (by omega) (by omega)
  · rw [B_neg hl, if_neg (by simp), if_neg (by simp)]
theorem laws_eqSegment.same (a b c d : Int) : laws_eqSegment.f a b c d a b c d = some true := by
  simp [laws_eqSegment.f, laws_eqPoint.f]
theorem laws_eqSegmentS.l0_same (x : List S46) (hn : x.length ≤ 140737488355328) : ∀ (d k i : Nat), i + d = x.length → d < k → laws_eqSegmentS.l0 k x x (i : Int) = some true := by
  intro d
  induction d with
  | zero =>
    intro k i hi hk
    obtain ⟨k, rfl⟩ : ∃ m, k = m + 1 := ⟨k - 1, by omega⟩
    simp only [laws_eqSegmentS.l0]
    rw [if_neg (by omega)]
  | succ d ih =>
    intro k i hi hk
    obtain ⟨k, rfl⟩ : ∃ m, k = m + 1 := ⟨k - 1, by omega⟩
    simp only [laws_eqSegmentS.l0]
    rw [if_pos (by omega), if_pos (by omega), if_pos (by omega), laws_eqSegment.same]
    simp only [Option.bind_some, if_true]
    rw [w64_succ (n := x.length) (by omega) (by omega)]
    exact ih k (i + 1) (by omega) (by omega)
theorem laws_eqSegmentS.same (a : List S46) (hn : a.length ≤ 140737488355328) (k : Nat) (hk : a.length < k) : laws_eqSegmentS.f k a a = some true := by
  unfold laws_eqSegmentS.f
  rw [if_pos rfl]
  exact laws_eqSegmentS.l0_same a hn a.length k 0 (by omega) hk
/-- The marks that the law writes into n segments, from 1 on. -/
def marksG (n : Nat) : List S46 := (List.range n).map fun j : Nat => ⟨⟨1 + 4 * (j : Int), 1 + 4 * (j : Int) + 1⟩, ⟨1 + 4 * (j : Int) + 1 + 1, 1 + 4 * (j : Int) + 1 + 1 + 1⟩⟩
theorem marksG_length (n : Nat) : (marksG n).length = n := by simp [marksG]
theorem marksG_get {n i : Nat} (h : i < n) : (marksG n)[i]? = some ⟨⟨1 + 4 * (i : Int), 1 + 4 * (i : Int) + 1⟩, ⟨1 + 4 * (i : Int) + 1 + 1, 1 + 4 * (i : Int) + 1 + 1 + 1⟩⟩ := by simp [marksG, h]
theorem rdG_some {xs : List S46} {i : Nat} {v : S46} (h : xs[i]? = some v) : rd_T46 xs (i : Int) = v := by
  unfold rd_T46
  simp [List.getD_eq_getElem?_getD, h]
theorem rdG_set {xs : List S46} {i : Nat} (h : i < xs.length) (v : S46) : rd_T46 (xs.set (i : Int).toNat v) (i : Int) = v := rdG_some (by rw [Int.toNat_natCast, List.getElem?_set_self h])
theorem laws_markSegmentS.l0_ok (n : Nat) (hn : n ≤ 1048576) : ∀ (d k i : Nat) (out : List S46), i + d = n → out.length = n → out.take i = (marksG n).take i → d < k → laws_markSegmentS.l0 k out (1 + 4 * (i : Int)) (i : Int) = some (1 + 4 * (n : Int), marksG n) := by
  intro d
  induction d with
  | zero =>
    intro k i out hi hl ht hk
    obtain ⟨k, rfl⟩ : ∃ m, k = m + 1 := ⟨k - 1, by omega⟩
    simp only [laws_markSegmentS.l0]
    rw [if_neg (by omega), take_all ht (by omega) (by rw [marksG_length]; omega)]
    congr 2; omega
  | succ d ih =>
    intro k i out hi hl ht hk
    obtain ⟨k, rfl⟩ : ∃ m, k = m + 1 := ⟨k - 1, by omega⟩
    simp only [laws_markSegmentS.l0]
    rw [if_pos (by omega), if_pos (by omega)]
    have ho : i < out.length := by omega
    simp only [Option.bind_some, rdG_set ho, List.set_set]
    rw [w64_succ (n := n) (by omega) (by omega), w64 (n := 1 + 4 * (i : Int) + 1) (by omega) (by omega), w64 (n := 1 + 4 * (i : Int) + 1 + 1) (by omega) (by omega), w64 (n := 1 + 4 * (i : Int) + 1 + 1 + 1) (by omega) (by omega), w64 (n := 1 + 4 * (i : Int) + 1 + 1 + 1 + 1) (by omega) (by omega)]
    rw [show 1 + 4 * (i : Int) + 1 + 1 + 1 + 1 = 1 + 4 * ((i + 1 : Nat) : Int) by omega]
    refine ih k (i + 1) _ (by omega) (by simpa using hl) ?_ (by omega)
    exact take_set_succ (by rw [marksG_length]; omega) (by rw [marksG_length]; omega) ht (marksG_get (by omega))
theorem laws_markSegmentS.ok (l : List S46) (hn : l.length ≤ 1048576) (k : Nat) (hk : l.length < k) : laws_markSegmentS.f k l 1 = some (1 + 4 * (l.length : Int), marksG l.length) := by
  unfold laws_markSegmentS.f
  exact laws_markSegmentS.l0_ok l.length hn l.length k 0 l (by omega) rfl (by simp) hk
theorem laws_heldSegmentS.l0_ok (n : Nat) (hn : n ≤ 1048576) : ∀ (d k i : Nat), i + d = n → d < k → laws_heldSegmentS.l0 k (marksG n) (1 + 4 * (i : Int)) (i : Int) = some (1 + 4 * (n : Int)) := by
  intro d
  induction d with
  | zero =>
    intro k i hi hk
    obtain ⟨k, rfl⟩ : ∃ m, k = m + 1 := ⟨k - 1, by omega⟩
    simp only [laws_heldSegmentS.l0]
    rw [if_neg (by rw [marksG_length]; omega)]
    congr 1; omega
  | succ d ih =>
    intro k i hi hk
    obtain ⟨k, rfl⟩ : ∃ m, k = m + 1 := ⟨k - 1, by omega⟩
    simp only [laws_heldSegmentS.l0]
    rw [if_pos (by rw [marksG_length]; omega), if_pos (by omega), rdG_some (marksG_get (by omega)), w64_succ (n := n) (by omega) (by omega), w64 (n := 1 + 4 * (i : Int) + 1) (by omega) (by omega), w64 (n := 1 + 4 * (i : Int) + 1 + 1) (by omega) (by omega), w64 (n := 1 + 4 * (i : Int) + 1 + 1 + 1) (by omega) (by omega), w64 (n := 1 + 4 * (i : Int) + 1 + 1 + 1 + 1) (by omega) (by omega), show 1 + 4 * (i : Int) + 1 + 1 + 1 + 1 = 1 + 4 * ((i + 1 : Nat) : Int) by omega, if_pos rfl, if_pos rfl, if_pos rfl, if_pos rfl]
    exact ih k (i + 1) (by omega) (by omega)
theorem laws_heldSegmentS.ok (n : Nat) (hn : n ≤ 1048576) (k : Nat) (hk : n < k) : laws_heldSegmentS.f k (marksG n) 1 = some (1 + 4 * (n : Int)) := by
  unfold laws_heldSegmentS.f
  exact laws_heldSegmentS.l0_ok n hn n k 0 (by omega) hk
theorem FnExactSegmentsOf (l : List S39) (hn : l.length ≤ 9223372036854775807) : ∃ k, laws_FnExactSegmentsOf.f k l = some true := by
  refine ⟨2 * l.length + 40, ?_⟩
  unfold laws_FnExactSegmentsOf.f
  rw [laws_szPointS.eq l 1048576 hn (by omega) (by omega)]
  by_cases h : (1048576 : Int) < (l.length : Int)
  · rw [if_pos h]; rfl
  · rw [if_neg h]
    have hp := toP_length l
    have neg : ∀ m : Nat, ¬ (1 + 2 * (m : Int) < 0) := fun m => by omega
    have neg4 : ∀ m : Nat, ¬ (1 + 4 * (m : Int) < 0) := fun m => by omega
    simp only [Option.bind_some]
    rw [if_neg (by omega), laws_toPointS.ok l (by omega) _ (by omega)]
    generalize hP : toP l = P at hp ⊢
    simp only [Option.bind_some]
    have hs := segI_length P
    have e0 : (if B (lineP (pts P)) = true then segL P else []) = segI P := rfl
    rw [spec_SegmentsOf.ok P (by omega) _ (by omega), e0, impl_SegmentsOf.ok P _ (by omega)]
    generalize hG : segI P = G at hs e0 ⊢
    simp only [Option.bind_some]
    rw [laws_eqSegmentS.same G (by omega) _ (by omega)]
    simp only [Option.bind_some, if_true]
    rw [laws_eqPointS.same P (by omega) _ (by omega)]
    simp only [Option.bind_some, if_true]
    rw [laws_markPointS.ok P (by omega) _ (by omega)]
    simp only [Option.bind_some, neg, if_false, Bool.not_true]
    simp only [laws_FnExactSegmentsOf.j0]
    rw [if_neg (by simp), laws_markSegmentS.ok G (by omega) _ (by omega)]
    simp only [Option.bind_some]
    rw [laws_heldSegmentS.ok G.length (by omega) _ (by omega)]
    simp only [Option.bind_some, neg4, if_false, if_true]
    rw [laws_toPointS.ok l (by omega) _ (by omega), hP]
    simp only [Option.bind_some]
    rw [impl_SegmentsOf.ok P _ (by omega), hG]
    simp only [Option.bind_some]
    rw [laws_eqSegmentS.same G (by omega) _ (by omega)]
    simp only [Option.bind_some, if_true]

end Go.Proofs.Ytonocoedbihfeaa.Pure
